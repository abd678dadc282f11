/- Draws of events that may be bent; a law that says what a valid event has. -/
import Derived.Test.YtkmenljbajlneaaDrawE
import Derived.Test.YtkmenljbajlneaaEvOk
namespace Go.Proofs.Ytkmenljbajlneaa
set_option linter.unusedSimpArgs false
set_option linter.unusedVariables false
open Go.ChangeShapes Go.WideShapes Go.ChangeAt Go.RowKit Go.BigFrame

theorem ints10 (w : World) {t : TypeId} {l : List Value} {l' : List Int} (h : l = l'.map (Value.int .i64)) : (w.alloc (.cells l.toArray t (0, 0))).heap[w.heap.size]? = some (.cells (l'.map (Value.int .i64)).toArray t (0, 0)) := by
  subst h; exact heap_alloc_new w _
set_option maxRecDepth 100000 in
set_option maxHeartbeats 2000000 in
theorem l4Number_any (B : Nat) (w : World) (hc : Cur w B) : Calls Try.prog 107 #[.pointer (some ⟨B, 0, none⟩)] w (DrawnI B w) := by
  have hB := hc.lt
  go_enter Try.func107, Try.ntmps107
  go_wp2_with fail
  refine (l1Once_any B 4 w hc (by omega) (by omega)).mono ?_
  rintro r w1 ⟨b, rfl, hc1, ho1⟩
  have hz1 := ho1.size
  cases b
  · go_wp2_with fail
    refine (l1Below_any B 20 w1 hc1 (by omega) (by omega)).mono ?_
    rintro r w2 ⟨x, rfl, hx0, hx1, hc2, ho2⟩
    go_wp2
    go_ret
    exact ⟨_, rfl, hc2, ho1.trans ho2⟩
  · go_wp2_with fail
    have hu := (Up.step (Up.refl hc) hc1 ho1).alloc hB
    refine (l1PickInt_any B w1.heap.size 10 [0, 1, -1, 18999, 19000, 19999, 20000, 536870911, 536870912, 9223372036854775807] _ _ (hu _).cur (by omega) (heap_alloc_new _ _) (by decide) (by decide)).mono ?_
    rintro r w2 ⟨x, rfl, hc2, ho2⟩
    go_wp2
    go_ret
    exact ⟨x, rfl, hc2, (hu _).oth.trans ho2⟩
set_option maxRecDepth 100000 in
set_option maxHeartbeats 2000000 in
theorem l1Whole_any (B : Nat) (w : World) (hc : Cur w B) : Calls Try.prog 108 #[.pointer (some ⟨B, 0, none⟩)] w (DrawnI B w) := by
  have hB := hc.lt
  go_enter Try.func108, Try.ntmps108
  go_wp2_with fail
  refine (l1Below_any B 3 w hc (by omega) (by omega)).mono ?_
  rintro r w1 ⟨b, rfl, hb0, hb1, hc1, ho1⟩
  have hz1 := ho1.size
  rcases (show b = 0 ∨ b = 1 ∨ b = 2 by omega) with rfl | rfl | rfl
  · go_wp2_with fail
    have hu := (Up.step (Up.refl hc) hc1 ho1).alloc hB
    refine (l1PickInt_any B w1.heap.size 11 [0, 1, -1, 9, 10, 127, 128, 999999999, 1000000000, 9223372036854775807, -9223372036854775808] _ _ (hu _).cur (by omega) (heap_alloc_new _ _) (by decide) (by decide)).mono ?_
    rintro r w2 ⟨x, rfl, hc2, ho2⟩
    go_wp2
    go_ret
    exact ⟨x, rfl, hc2, (hu _).oth.trans ho2⟩
  · go_wp2_with fail
    refine (l1Below_big B 1000000 w1 hc1 (by omega) (by omega)).mono ?_
    rintro r w2 ⟨x, rfl, hx0, hx1, hc2, ho2⟩
    go_wp2
    go_ret
    exact ⟨_, rfl, hc2, ho1.trans ho2⟩
  · go_wp2_with fail
    refine (l1Below_any B 20 w1 hc1 (by omega) (by omega)).mono ?_
    rintro r w2 ⟨x, rfl, hx0, hx1, hc2, ho2⟩
    go_wp2
    go_ret
    exact ⟨_, rfl, hc2, ho1.trans ho2⟩
set_option maxRecDepth 100000 in
set_option maxHeartbeats 4000000 in
theorem l10Bent_any (B : Nat) (w : World) (hc : Cur w B) : Calls Try.prog 87 #[.pointer (some ⟨B, 0, none⟩)] w (DrawnE B w) := by
  have hB := hc.lt
  have hu0 := Up.refl hc
  go_enter Try.func87, Try.ntmps87
  go_wp2_with fail
  refine (l10Right_any B _ (Up.cur (by ((repeat (first | (with_reducible exact hu0) | (with_reducible refine Up.alloc ?_ hB _) | (with_reducible refine Up.set ?_ ?_ hB _) | (with_reducible refine Up.drew ?_))); all_goals (first | omega | (simp; done) | (simp; omega)))))).mono ?_
  rintro r w1 ⟨⟨k, f, b, l, t, c, a⟩, rfl, ht, hc1, ho1⟩
  have hu1 : Up B w w1 := Up.step (by ((repeat (first | (with_reducible exact hu0) | (with_reducible refine Up.alloc ?_ hB _) | (with_reducible refine Up.set ?_ ?_ hB _) | (with_reducible refine Up.drew ?_))); all_goals (first | omega | (simp; done) | (simp; omega)))) hc1 ho1
  have hz1 := ho1.size
  try simp only [World.size_alloc, World.size_setCell, World.size_drew, size_setRow] at hz1
  have hR_ : w1.heap[w.heap.size]? = some (.cells #[.int .i64 0, .int .i64 0, .int .u64 0, .int .i64 0, .string ⟨#[]⟩, .int .i64 0, .int .i64 0] 68 (0, 0)) := (ho1.block (b := w.heap.size) (by first | omega | (simp; done) | (simp; omega)) (by omega)).trans (by (apply hset_eq; (repeat (first | (with_reducible exact HR.out) | (with_reducible apply hset_row) | (with_reducible apply hset_set) | (with_reducible exact heap_alloc_new _ _) | (with_reducible exact heap_snd _ _ _) | (with_reducible apply hset_alloc) | (with_reducible apply hset_drew) | (with_reducible apply hset_other; case hk => first | omega | (simp; omega)) | (with_reducible apply hset_row_other; case hk => first | omega | (simp; omega)))); all_goals rfl))
  try clear HR kR fR hBR
  have kR := box_cells hR_; have fR := box_frozen hR_; have hBR := box_lt hR_; have HR := Lib.hid hR_; clear hR_
  clear hc1 ho1
  simp only at ht
  go_wp2_with fail
  refine (l1Below_any B 14 _ (Up.cur (by ((repeat (first | (with_reducible exact hu1) | (with_reducible refine Up.alloc ?_ hB _) | (with_reducible refine Up.set ?_ ?_ hB _) | (with_reducible refine Up.drew ?_))); all_goals (first | omega | (simp; done) | (simp; omega))))) (by omega) (by omega)).mono ?_
  rintro r w2 ⟨x, rfl, hx0, hx1, hc2, ho2⟩
  have hu2 : Up B w w2 := Up.step (by ((repeat (first | (with_reducible exact hu1) | (with_reducible refine Up.alloc ?_ hB _) | (with_reducible refine Up.set ?_ ?_ hB _) | (with_reducible refine Up.drew ?_))); all_goals (first | omega | (simp; done) | (simp; omega)))) hc2 ho2
  have hz2 := ho2.size
  try simp only [World.size_alloc, World.size_setCell, World.size_drew, size_setRow] at hz2
  have hR_ : w2.heap[w.heap.size]? = some (.cells #[.int .i64 0, .int .i64 0, .int .u64 0, .int .i64 0, .string ⟨#[]⟩, .int .i64 0, .int .i64 0] 68 (0, 0)) := (ho2.block (b := w.heap.size) (by first | omega | (simp; done) | (simp; omega)) (by omega)).trans (by (apply hset_eq; (repeat (first | (with_reducible exact HR.out) | (with_reducible apply hset_row) | (with_reducible apply hset_set) | (with_reducible exact heap_alloc_new _ _) | (with_reducible exact heap_snd _ _ _) | (with_reducible apply hset_alloc) | (with_reducible apply hset_drew) | (with_reducible apply hset_other; case hk => first | omega | (simp; omega)) | (with_reducible apply hset_row_other; case hk => first | omega | (simp; omega)))); all_goals rfl))
  try clear HR kR fR hBR
  have kR := box_cells hR_; have fR := box_frozen hR_; have hBR := box_lt hR_; have HR := Lib.hid hR_; clear hR_
  have hE_ : w2.heap[w1.heap.size]? = some (.cells #[.int .i64 k, .int .i64 f, .int .u64 b, .int .i64 l, .string t, .int .i64 c, .int .i64 a] 68 (0, 0)) := (ho2.block (b := w1.heap.size) (by first | omega | (simp; done) | (simp; omega)) (by omega)).trans (by (apply hset_eq; (repeat (first | (with_reducible exact HE.out) | (with_reducible apply hset_row) | (with_reducible apply hset_set) | (with_reducible exact heap_alloc_new _ _) | (with_reducible exact heap_snd _ _ _) | (with_reducible apply hset_alloc) | (with_reducible apply hset_drew) | (with_reducible apply hset_other; case hk => first | omega | (simp; omega)) | (with_reducible apply hset_row_other; case hk => first | omega | (simp; omega)))); all_goals rfl))
  try clear HE kE fE hBE
  have kE := box_cells hE_; have fE := box_frozen hE_; have hBE := box_lt hE_; have HE := Lib.hid hE_; clear hE_
  clear hc2 ho2
  rcases (show x = 0 ∨ x = 1 ∨ x = 2 ∨ x = 3 ∨ x = 4 ∨ x = 5 ∨ x = 6 ∨ 7 ≤ x by omega) with rfl | rfl | rfl | rfl | rfl | rfl | rfl | h7
  · skip
    go_wp2_with fail
    refine (l1Below_any B 13 _ (Up.cur (by ((repeat (first | (with_reducible exact hu2) | (with_reducible refine Up.alloc ?_ hB _) | (with_reducible refine Up.set ?_ ?_ hB _) | (with_reducible refine Up.drew ?_))); all_goals (first | omega | (simp; done) | (simp; omega))))) (by omega) (by omega)).mono ?_
    rintro r w3 ⟨y, rfl, hy0, hy1, hc3, ho3⟩
    have hu3 : Up B w w3 := Up.step (by ((repeat (first | (with_reducible exact hu2) | (with_reducible refine Up.alloc ?_ hB _) | (with_reducible refine Up.set ?_ ?_ hB _) | (with_reducible refine Up.drew ?_))); all_goals (first | omega | (simp; done) | (simp; omega)))) hc3 ho3
    have hz3 := ho3.size
    try simp only [World.size_alloc, World.size_setCell, World.size_drew, size_setRow] at hz3
    have hR_ : w3.heap[w.heap.size]? = some (.cells #[.int .i64 0, .int .i64 0, .int .u64 0, .int .i64 0, .string ⟨#[]⟩, .int .i64 0, .int .i64 0] 68 (0, 0)) := (ho3.block (b := w.heap.size) (by first | omega | (simp; done) | (simp; omega)) (by omega)).trans (by (apply hset_eq; (repeat (first | (with_reducible exact HR.out) | (with_reducible apply hset_row) | (with_reducible apply hset_set) | (with_reducible exact heap_alloc_new _ _) | (with_reducible exact heap_snd _ _ _) | (with_reducible apply hset_alloc) | (with_reducible apply hset_drew) | (with_reducible apply hset_other; case hk => first | omega | (simp; omega)) | (with_reducible apply hset_row_other; case hk => first | omega | (simp; omega)))); all_goals rfl))
    try clear HR kR fR hBR
    have kR := box_cells hR_; have fR := box_frozen hR_; have hBR := box_lt hR_; have HR := Lib.hid hR_; clear hR_
    have hE_ : w3.heap[w1.heap.size]? = some (.cells #[.int .i64 k, .int .i64 f, .int .u64 b, .int .i64 l, .string t, .int .i64 c, .int .i64 a] 68 (0, 0)) := (ho3.block (b := w1.heap.size) (by first | omega | (simp; done) | (simp; omega)) (by omega)).trans (by (apply hset_eq; (repeat (first | (with_reducible exact HE.out) | (with_reducible apply hset_row) | (with_reducible apply hset_set) | (with_reducible exact heap_alloc_new _ _) | (with_reducible exact heap_snd _ _ _) | (with_reducible apply hset_alloc) | (with_reducible apply hset_drew) | (with_reducible apply hset_other; case hk => first | omega | (simp; omega)) | (with_reducible apply hset_row_other; case hk => first | omega | (simp; omega)))); all_goals rfl))
    try clear HE kE fE hBE
    have kE := box_cells hE_; have fE := box_frozen hE_; have hBE := box_lt hE_; have HE := Lib.hid hE_; clear hE_
    clear hc3 ho3
    go_wp2
    exact fin_ev Try.results87 ⟨y - 1, f, b, l, t, c, a⟩ rfl rfl (by (apply hset_eq; (repeat (first | (with_reducible exact HR.out) | (with_reducible apply hset_row) | (with_reducible apply hset_set) | (with_reducible exact heap_alloc_new _ _) | (with_reducible exact heap_snd _ _ _) | (with_reducible apply hset_alloc) | (with_reducible apply hset_drew) | (with_reducible apply hset_other; case hk => first | omega | (simp; omega)) | (with_reducible apply hset_row_other; case hk => first | omega | (simp; omega)))); all_goals rfl)) ht (by ((repeat (first | (with_reducible exact hu3) | (with_reducible refine Up.alloc ?_ hB _) | (with_reducible refine Up.set ?_ ?_ hB _) | (with_reducible refine Up.drew ?_))); all_goals (first | omega | (simp; done) | (simp; omega))))
  · skip
    go_wp2_with fail
    refine (l4Number_any B _ (Up.cur (by ((repeat (first | (with_reducible exact hu2) | (with_reducible refine Up.alloc ?_ hB _) | (with_reducible refine Up.set ?_ ?_ hB _) | (with_reducible refine Up.drew ?_))); all_goals (first | omega | (simp; done) | (simp; omega)))))).mono ?_
    rintro r w3 ⟨y, rfl, hc3, ho3⟩
    have hu3 : Up B w w3 := Up.step (by ((repeat (first | (with_reducible exact hu2) | (with_reducible refine Up.alloc ?_ hB _) | (with_reducible refine Up.set ?_ ?_ hB _) | (with_reducible refine Up.drew ?_))); all_goals (first | omega | (simp; done) | (simp; omega)))) hc3 ho3
    have hz3 := ho3.size
    try simp only [World.size_alloc, World.size_setCell, World.size_drew, size_setRow] at hz3
    have hR_ : w3.heap[w.heap.size]? = some (.cells #[.int .i64 0, .int .i64 0, .int .u64 0, .int .i64 0, .string ⟨#[]⟩, .int .i64 0, .int .i64 0] 68 (0, 0)) := (ho3.block (b := w.heap.size) (by first | omega | (simp; done) | (simp; omega)) (by omega)).trans (by (apply hset_eq; (repeat (first | (with_reducible exact HR.out) | (with_reducible apply hset_row) | (with_reducible apply hset_set) | (with_reducible exact heap_alloc_new _ _) | (with_reducible exact heap_snd _ _ _) | (with_reducible apply hset_alloc) | (with_reducible apply hset_drew) | (with_reducible apply hset_other; case hk => first | omega | (simp; omega)) | (with_reducible apply hset_row_other; case hk => first | omega | (simp; omega)))); all_goals rfl))
    try clear HR kR fR hBR
    have kR := box_cells hR_; have fR := box_frozen hR_; have hBR := box_lt hR_; have HR := Lib.hid hR_; clear hR_
    have hE_ : w3.heap[w1.heap.size]? = some (.cells #[.int .i64 k, .int .i64 f, .int .u64 b, .int .i64 l, .string t, .int .i64 c, .int .i64 a] 68 (0, 0)) := (ho3.block (b := w1.heap.size) (by first | omega | (simp; done) | (simp; omega)) (by omega)).trans (by (apply hset_eq; (repeat (first | (with_reducible exact HE.out) | (with_reducible apply hset_row) | (with_reducible apply hset_set) | (with_reducible exact heap_alloc_new _ _) | (with_reducible exact heap_snd _ _ _) | (with_reducible apply hset_alloc) | (with_reducible apply hset_drew) | (with_reducible apply hset_other; case hk => first | omega | (simp; omega)) | (with_reducible apply hset_row_other; case hk => first | omega | (simp; omega)))); all_goals rfl))
    try clear HE kE fE hBE
    have kE := box_cells hE_; have fE := box_frozen hE_; have hBE := box_lt hE_; have HE := Lib.hid hE_; clear hE_
    clear hc3 ho3
    go_wp2
    exact fin_ev Try.results87 ⟨k, y, b, l, t, c, a⟩ rfl rfl (by (apply hset_eq; (repeat (first | (with_reducible exact HR.out) | (with_reducible apply hset_row) | (with_reducible apply hset_set) | (with_reducible exact heap_alloc_new _ _) | (with_reducible exact heap_snd _ _ _) | (with_reducible apply hset_alloc) | (with_reducible apply hset_drew) | (with_reducible apply hset_other; case hk => first | omega | (simp; omega)) | (with_reducible apply hset_row_other; case hk => first | omega | (simp; omega)))); all_goals rfl)) ht (by ((repeat (first | (with_reducible exact hu3) | (with_reducible refine Up.alloc ?_ hB _) | (with_reducible refine Up.set ?_ ?_ hB _) | (with_reducible refine Up.drew ?_))); all_goals (first | omega | (simp; done) | (simp; omega))))
  · skip
    go_wp2_with fail
    refine (l1Whole_any B _ (Up.cur (by ((repeat (first | (with_reducible exact hu2) | (with_reducible refine Up.alloc ?_ hB _) | (with_reducible refine Up.set ?_ ?_ hB _) | (with_reducible refine Up.drew ?_))); all_goals (first | omega | (simp; done) | (simp; omega)))))).mono ?_
    rintro r w3 ⟨y, rfl, hc3, ho3⟩
    have hu3 : Up B w w3 := Up.step (by ((repeat (first | (with_reducible exact hu2) | (with_reducible refine Up.alloc ?_ hB _) | (with_reducible refine Up.set ?_ ?_ hB _) | (with_reducible refine Up.drew ?_))); all_goals (first | omega | (simp; done) | (simp; omega)))) hc3 ho3
    have hz3 := ho3.size
    try simp only [World.size_alloc, World.size_setCell, World.size_drew, size_setRow] at hz3
    have hR_ : w3.heap[w.heap.size]? = some (.cells #[.int .i64 0, .int .i64 0, .int .u64 0, .int .i64 0, .string ⟨#[]⟩, .int .i64 0, .int .i64 0] 68 (0, 0)) := (ho3.block (b := w.heap.size) (by first | omega | (simp; done) | (simp; omega)) (by omega)).trans (by (apply hset_eq; (repeat (first | (with_reducible exact HR.out) | (with_reducible apply hset_row) | (with_reducible apply hset_set) | (with_reducible exact heap_alloc_new _ _) | (with_reducible exact heap_snd _ _ _) | (with_reducible apply hset_alloc) | (with_reducible apply hset_drew) | (with_reducible apply hset_other; case hk => first | omega | (simp; omega)) | (with_reducible apply hset_row_other; case hk => first | omega | (simp; omega)))); all_goals rfl))
    try clear HR kR fR hBR
    have kR := box_cells hR_; have fR := box_frozen hR_; have hBR := box_lt hR_; have HR := Lib.hid hR_; clear hR_
    have hE_ : w3.heap[w1.heap.size]? = some (.cells #[.int .i64 k, .int .i64 f, .int .u64 b, .int .i64 l, .string t, .int .i64 c, .int .i64 a] 68 (0, 0)) := (ho3.block (b := w1.heap.size) (by first | omega | (simp; done) | (simp; omega)) (by omega)).trans (by (apply hset_eq; (repeat (first | (with_reducible exact HE.out) | (with_reducible apply hset_row) | (with_reducible apply hset_set) | (with_reducible exact heap_alloc_new _ _) | (with_reducible exact heap_snd _ _ _) | (with_reducible apply hset_alloc) | (with_reducible apply hset_drew) | (with_reducible apply hset_other; case hk => first | omega | (simp; omega)) | (with_reducible apply hset_row_other; case hk => first | omega | (simp; omega)))); all_goals rfl))
    try clear HE kE fE hBE
    have kE := box_cells hE_; have fE := box_frozen hE_; have hBE := box_lt hE_; have HE := Lib.hid hE_; clear hE_
    clear hc3 ho3
    go_wp2
    exact fin_ev Try.results87 ⟨k, f, b, y, t, c, a⟩ rfl rfl (by (apply hset_eq; (repeat (first | (with_reducible exact HR.out) | (with_reducible apply hset_row) | (with_reducible apply hset_set) | (with_reducible exact heap_alloc_new _ _) | (with_reducible exact heap_snd _ _ _) | (with_reducible apply hset_alloc) | (with_reducible apply hset_drew) | (with_reducible apply hset_other; case hk => first | omega | (simp; omega)) | (with_reducible apply hset_row_other; case hk => first | omega | (simp; omega)))); all_goals rfl)) ht (by ((repeat (first | (with_reducible exact hu3) | (with_reducible refine Up.alloc ?_ hB _) | (with_reducible refine Up.set ?_ ?_ hB _) | (with_reducible refine Up.drew ?_))); all_goals (first | omega | (simp; done) | (simp; omega))))
  · skip
    go_wp2_with fail
    refine (l1Pick_any B (w2.heap.size) 2 [⟨#[]⟩, ⟨#[120]⟩] _ _ (Up.cur (by ((repeat (first | (with_reducible exact hu2) | (with_reducible refine Up.alloc ?_ hB _) | (with_reducible refine Up.set ?_ ?_ hB _) | (with_reducible refine Up.drew ?_))); all_goals (first | omega | (simp; done) | (simp; omega))))) (by omega) (by (apply hset_eq; (repeat (first | (with_reducible exact HR.out) | (with_reducible apply hset_row) | (with_reducible apply hset_set) | (with_reducible exact heap_alloc_new _ _) | (with_reducible exact heap_snd _ _ _) | (with_reducible apply hset_alloc) | (with_reducible apply hset_drew) | (with_reducible apply hset_other; case hk => first | omega | (simp; omega)) | (with_reducible apply hset_row_other; case hk => first | omega | (simp; omega)))); all_goals rfl)) (by decide) (by decide)).mono ?_
    rintro r w3 ⟨y, rfl, hy, hc3, ho3⟩
    have hu3 : Up B w w3 := Up.step (by ((repeat (first | (with_reducible exact hu2) | (with_reducible refine Up.alloc ?_ hB _) | (with_reducible refine Up.set ?_ ?_ hB _) | (with_reducible refine Up.drew ?_))); all_goals (first | omega | (simp; done) | (simp; omega)))) hc3 ho3
    have hz3 := ho3.size
    try simp only [World.size_alloc, World.size_setCell, World.size_drew, size_setRow] at hz3
    have hR_ : w3.heap[w.heap.size]? = some (.cells #[.int .i64 0, .int .i64 0, .int .u64 0, .int .i64 0, .string ⟨#[]⟩, .int .i64 0, .int .i64 0] 68 (0, 0)) := (ho3.block (b := w.heap.size) (by first | omega | (simp; done) | (simp; omega)) (by omega)).trans (by (apply hset_eq; (repeat (first | (with_reducible exact HR.out) | (with_reducible apply hset_row) | (with_reducible apply hset_set) | (with_reducible exact heap_alloc_new _ _) | (with_reducible exact heap_snd _ _ _) | (with_reducible apply hset_alloc) | (with_reducible apply hset_drew) | (with_reducible apply hset_other; case hk => first | omega | (simp; omega)) | (with_reducible apply hset_row_other; case hk => first | omega | (simp; omega)))); all_goals rfl))
    try clear HR kR fR hBR
    have kR := box_cells hR_; have fR := box_frozen hR_; have hBR := box_lt hR_; have HR := Lib.hid hR_; clear hR_
    have hE_ : w3.heap[w1.heap.size]? = some (.cells #[.int .i64 k, .int .i64 f, .int .u64 b, .int .i64 l, .string t, .int .i64 c, .int .i64 a] 68 (0, 0)) := (ho3.block (b := w1.heap.size) (by first | omega | (simp; done) | (simp; omega)) (by omega)).trans (by (apply hset_eq; (repeat (first | (with_reducible exact HE.out) | (with_reducible apply hset_row) | (with_reducible apply hset_set) | (with_reducible exact heap_alloc_new _ _) | (with_reducible exact heap_snd _ _ _) | (with_reducible apply hset_alloc) | (with_reducible apply hset_drew) | (with_reducible apply hset_other; case hk => first | omega | (simp; omega)) | (with_reducible apply hset_row_other; case hk => first | omega | (simp; omega)))); all_goals rfl))
    try clear HE kE fE hBE
    have kE := box_cells hE_; have fE := box_frozen hE_; have hBE := box_lt hE_; have HE := Lib.hid hE_; clear hE_
    clear hc3 ho3
    have hys : y.size ≤ 6 := by simp only [List.mem_cons, List.not_mem_nil, or_false] at hy; rcases hy with rfl | rfl <;> decide
    go_wp2
    exact fin_ev Try.results87 ⟨k, f, b, l, y, c, a⟩ rfl rfl (by (apply hset_eq; (repeat (first | (with_reducible exact HR.out) | (with_reducible apply hset_row) | (with_reducible apply hset_set) | (with_reducible exact heap_alloc_new _ _) | (with_reducible exact heap_snd _ _ _) | (with_reducible apply hset_alloc) | (with_reducible apply hset_drew) | (with_reducible apply hset_other; case hk => first | omega | (simp; omega)) | (with_reducible apply hset_row_other; case hk => first | omega | (simp; omega)))); all_goals rfl)) hys (by ((repeat (first | (with_reducible exact hu3) | (with_reducible refine Up.alloc ?_ hB _) | (with_reducible refine Up.set ?_ ?_ hB _) | (with_reducible refine Up.drew ?_))); all_goals (first | omega | (simp; done) | (simp; omega))))
  · skip
    go_wp2_with fail
    refine (l1PickInt_any B (w2.heap.size) 4 [0, -1, 11, 20] _ _ (Up.cur (by ((repeat (first | (with_reducible exact hu2) | (with_reducible refine Up.alloc ?_ hB _) | (with_reducible refine Up.set ?_ ?_ hB _) | (with_reducible refine Up.drew ?_))); all_goals (first | omega | (simp; done) | (simp; omega))))) (by omega) (by (apply hset_eq; (repeat (first | (with_reducible exact HR.out) | (with_reducible apply hset_row) | (with_reducible apply hset_set) | (with_reducible exact heap_alloc_new _ _) | (with_reducible exact heap_snd _ _ _) | (with_reducible apply hset_alloc) | (with_reducible apply hset_drew) | (with_reducible apply hset_other; case hk => first | omega | (simp; omega)) | (with_reducible apply hset_row_other; case hk => first | omega | (simp; omega)))); all_goals rfl)) (by decide) (by decide)).mono ?_
    rintro r w3 ⟨y, rfl, hc3, ho3⟩
    have hu3 : Up B w w3 := Up.step (by ((repeat (first | (with_reducible exact hu2) | (with_reducible refine Up.alloc ?_ hB _) | (with_reducible refine Up.set ?_ ?_ hB _) | (with_reducible refine Up.drew ?_))); all_goals (first | omega | (simp; done) | (simp; omega)))) hc3 ho3
    have hz3 := ho3.size
    try simp only [World.size_alloc, World.size_setCell, World.size_drew, size_setRow] at hz3
    have hR_ : w3.heap[w.heap.size]? = some (.cells #[.int .i64 0, .int .i64 0, .int .u64 0, .int .i64 0, .string ⟨#[]⟩, .int .i64 0, .int .i64 0] 68 (0, 0)) := (ho3.block (b := w.heap.size) (by first | omega | (simp; done) | (simp; omega)) (by omega)).trans (by (apply hset_eq; (repeat (first | (with_reducible exact HR.out) | (with_reducible apply hset_row) | (with_reducible apply hset_set) | (with_reducible exact heap_alloc_new _ _) | (with_reducible exact heap_snd _ _ _) | (with_reducible apply hset_alloc) | (with_reducible apply hset_drew) | (with_reducible apply hset_other; case hk => first | omega | (simp; omega)) | (with_reducible apply hset_row_other; case hk => first | omega | (simp; omega)))); all_goals rfl))
    try clear HR kR fR hBR
    have kR := box_cells hR_; have fR := box_frozen hR_; have hBR := box_lt hR_; have HR := Lib.hid hR_; clear hR_
    have hE_ : w3.heap[w1.heap.size]? = some (.cells #[.int .i64 k, .int .i64 f, .int .u64 b, .int .i64 l, .string t, .int .i64 c, .int .i64 a] 68 (0, 0)) := (ho3.block (b := w1.heap.size) (by first | omega | (simp; done) | (simp; omega)) (by omega)).trans (by (apply hset_eq; (repeat (first | (with_reducible exact HE.out) | (with_reducible apply hset_row) | (with_reducible apply hset_set) | (with_reducible exact heap_alloc_new _ _) | (with_reducible exact heap_snd _ _ _) | (with_reducible apply hset_alloc) | (with_reducible apply hset_drew) | (with_reducible apply hset_other; case hk => first | omega | (simp; omega)) | (with_reducible apply hset_row_other; case hk => first | omega | (simp; omega)))); all_goals rfl))
    try clear HE kE fE hBE
    have kE := box_cells hE_; have fE := box_frozen hE_; have hBE := box_lt hE_; have HE := Lib.hid hE_; clear hE_
    clear hc3 ho3
    go_wp2
    exact fin_ev Try.results87 ⟨k, f, b, l, t, y, a⟩ rfl rfl (by (apply hset_eq; (repeat (first | (with_reducible exact HR.out) | (with_reducible apply hset_row) | (with_reducible apply hset_set) | (with_reducible exact heap_alloc_new _ _) | (with_reducible exact heap_snd _ _ _) | (with_reducible apply hset_alloc) | (with_reducible apply hset_drew) | (with_reducible apply hset_other; case hk => first | omega | (simp; omega)) | (with_reducible apply hset_row_other; case hk => first | omega | (simp; omega)))); all_goals rfl)) ht (by ((repeat (first | (with_reducible exact hu3) | (with_reducible refine Up.alloc ?_ hB _) | (with_reducible refine Up.set ?_ ?_ hB _) | (with_reducible refine Up.drew ?_))); all_goals (first | omega | (simp; done) | (simp; omega))))
  · skip
    go_wp2_with fail
    refine (l1Whole_any B _ (Up.cur (by ((repeat (first | (with_reducible exact hu2) | (with_reducible refine Up.alloc ?_ hB _) | (with_reducible refine Up.set ?_ ?_ hB _) | (with_reducible refine Up.drew ?_))); all_goals (first | omega | (simp; done) | (simp; omega)))))).mono ?_
    rintro r w3 ⟨y, rfl, hc3, ho3⟩
    have hu3 : Up B w w3 := Up.step (by ((repeat (first | (with_reducible exact hu2) | (with_reducible refine Up.alloc ?_ hB _) | (with_reducible refine Up.set ?_ ?_ hB _) | (with_reducible refine Up.drew ?_))); all_goals (first | omega | (simp; done) | (simp; omega)))) hc3 ho3
    have hz3 := ho3.size
    try simp only [World.size_alloc, World.size_setCell, World.size_drew, size_setRow] at hz3
    have hR_ : w3.heap[w.heap.size]? = some (.cells #[.int .i64 0, .int .i64 0, .int .u64 0, .int .i64 0, .string ⟨#[]⟩, .int .i64 0, .int .i64 0] 68 (0, 0)) := (ho3.block (b := w.heap.size) (by first | omega | (simp; done) | (simp; omega)) (by omega)).trans (by (apply hset_eq; (repeat (first | (with_reducible exact HR.out) | (with_reducible apply hset_row) | (with_reducible apply hset_set) | (with_reducible exact heap_alloc_new _ _) | (with_reducible exact heap_snd _ _ _) | (with_reducible apply hset_alloc) | (with_reducible apply hset_drew) | (with_reducible apply hset_other; case hk => first | omega | (simp; omega)) | (with_reducible apply hset_row_other; case hk => first | omega | (simp; omega)))); all_goals rfl))
    try clear HR kR fR hBR
    have kR := box_cells hR_; have fR := box_frozen hR_; have hBR := box_lt hR_; have HR := Lib.hid hR_; clear hR_
    have hE_ : w3.heap[w1.heap.size]? = some (.cells #[.int .i64 k, .int .i64 f, .int .u64 b, .int .i64 l, .string t, .int .i64 c, .int .i64 a] 68 (0, 0)) := (ho3.block (b := w1.heap.size) (by first | omega | (simp; done) | (simp; omega)) (by omega)).trans (by (apply hset_eq; (repeat (first | (with_reducible exact HE.out) | (with_reducible apply hset_row) | (with_reducible apply hset_set) | (with_reducible exact heap_alloc_new _ _) | (with_reducible exact heap_snd _ _ _) | (with_reducible apply hset_alloc) | (with_reducible apply hset_drew) | (with_reducible apply hset_other; case hk => first | omega | (simp; omega)) | (with_reducible apply hset_row_other; case hk => first | omega | (simp; omega)))); all_goals rfl))
    try clear HE kE fE hBE
    have kE := box_cells hE_; have fE := box_frozen hE_; have hBE := box_lt hE_; have HE := Lib.hid hE_; clear hE_
    clear hc3 ho3
    go_wp2
    exact fin_ev Try.results87 ⟨k, f, b, l, t, c, y⟩ rfl rfl (by (apply hset_eq; (repeat (first | (with_reducible exact HR.out) | (with_reducible apply hset_row) | (with_reducible apply hset_set) | (with_reducible exact heap_alloc_new _ _) | (with_reducible exact heap_snd _ _ _) | (with_reducible apply hset_alloc) | (with_reducible apply hset_drew) | (with_reducible apply hset_other; case hk => first | omega | (simp; omega)) | (with_reducible apply hset_row_other; case hk => first | omega | (simp; omega)))); all_goals rfl)) ht (by ((repeat (first | (with_reducible exact hu3) | (with_reducible refine Up.alloc ?_ hB _) | (with_reducible refine Up.set ?_ ?_ hB _) | (with_reducible refine Up.drew ?_))); all_goals (first | omega | (simp; done) | (simp; omega))))
  · skip
    go_wp2_with fail
    refine (l1Wide_any B _ (Up.cur (by ((repeat (first | (with_reducible exact hu2) | (with_reducible refine Up.alloc ?_ hB _) | (with_reducible refine Up.set ?_ ?_ hB _) | (with_reducible refine Up.drew ?_))); all_goals (first | omega | (simp; done) | (simp; omega)))))).mono ?_
    rintro r w3 ⟨y, rfl, _, hc3, ho3⟩
    have hu3 : Up B w w3 := Up.step (by ((repeat (first | (with_reducible exact hu2) | (with_reducible refine Up.alloc ?_ hB _) | (with_reducible refine Up.set ?_ ?_ hB _) | (with_reducible refine Up.drew ?_))); all_goals (first | omega | (simp; done) | (simp; omega)))) hc3 ho3
    have hz3 := ho3.size
    try simp only [World.size_alloc, World.size_setCell, World.size_drew, size_setRow] at hz3
    have hR_ : w3.heap[w.heap.size]? = some (.cells #[.int .i64 0, .int .i64 0, .int .u64 0, .int .i64 0, .string ⟨#[]⟩, .int .i64 0, .int .i64 0] 68 (0, 0)) := (ho3.block (b := w.heap.size) (by first | omega | (simp; done) | (simp; omega)) (by omega)).trans (by (apply hset_eq; (repeat (first | (with_reducible exact HR.out) | (with_reducible apply hset_row) | (with_reducible apply hset_set) | (with_reducible exact heap_alloc_new _ _) | (with_reducible exact heap_snd _ _ _) | (with_reducible apply hset_alloc) | (with_reducible apply hset_drew) | (with_reducible apply hset_other; case hk => first | omega | (simp; omega)) | (with_reducible apply hset_row_other; case hk => first | omega | (simp; omega)))); all_goals rfl))
    try clear HR kR fR hBR
    have kR := box_cells hR_; have fR := box_frozen hR_; have hBR := box_lt hR_; have HR := Lib.hid hR_; clear hR_
    have hE_ : w3.heap[w1.heap.size]? = some (.cells #[.int .i64 k, .int .i64 f, .int .u64 b, .int .i64 l, .string t, .int .i64 c, .int .i64 a] 68 (0, 0)) := (ho3.block (b := w1.heap.size) (by first | omega | (simp; done) | (simp; omega)) (by omega)).trans (by (apply hset_eq; (repeat (first | (with_reducible exact HE.out) | (with_reducible apply hset_row) | (with_reducible apply hset_set) | (with_reducible exact heap_alloc_new _ _) | (with_reducible exact heap_snd _ _ _) | (with_reducible apply hset_alloc) | (with_reducible apply hset_drew) | (with_reducible apply hset_other; case hk => first | omega | (simp; omega)) | (with_reducible apply hset_row_other; case hk => first | omega | (simp; omega)))); all_goals rfl))
    try clear HE kE fE hBE
    have kE := box_cells hE_; have fE := box_frozen hE_; have hBE := box_lt hE_; have HE := Lib.hid hE_; clear hE_
    clear hc3 ho3
    go_wp2
    exact fin_ev Try.results87 ⟨k, f, y, l, t, c, a⟩ rfl rfl (by (apply hset_eq; (repeat (first | (with_reducible exact HR.out) | (with_reducible apply hset_row) | (with_reducible apply hset_set) | (with_reducible exact heap_alloc_new _ _) | (with_reducible exact heap_snd _ _ _) | (with_reducible apply hset_alloc) | (with_reducible apply hset_drew) | (with_reducible apply hset_other; case hk => first | omega | (simp; omega)) | (with_reducible apply hset_row_other; case hk => first | omega | (simp; omega)))); all_goals rfl)) ht (by ((repeat (first | (with_reducible exact hu3) | (with_reducible refine Up.alloc ?_ hB _) | (with_reducible refine Up.set ?_ ?_ hB _) | (with_reducible refine Up.drew ?_))); all_goals (first | omega | (simp; done) | (simp; omega))))
  · have g0 : ¬ x = 0 := by omega
    have g1 : ¬ x = 1 := by omega
    have g2 : ¬ x = 2 := by omega
    have g3 : ¬ x = 3 := by omega
    have g4 : ¬ x = 4 := by omega
    have g5 : ¬ x = 5 := by omega
    have g6 : ¬ x = 6 := by omega
    go_wp2
    exact fin_ev Try.results87 ⟨k, f, b, l, t, c, a⟩ rfl rfl (by (apply hset_eq; (repeat (first | (with_reducible exact HR.out) | (with_reducible apply hset_row) | (with_reducible apply hset_set) | (with_reducible exact heap_alloc_new _ _) | (with_reducible exact heap_snd _ _ _) | (with_reducible apply hset_alloc) | (with_reducible apply hset_drew) | (with_reducible apply hset_other; case hk => first | omega | (simp; omega)) | (with_reducible apply hset_row_other; case hk => first | omega | (simp; omega)))); all_goals rfl)) ht (by ((repeat (first | (with_reducible exact hu2) | (with_reducible refine Up.alloc ?_ hB _) | (with_reducible refine Up.set ?_ ?_ hB _) | (with_reducible refine Up.drew ?_))); all_goals (first | omega | (simp; done) | (simp; omega))))
def DrawnEv (w : World) (r : Ending) (w' : World) : Prop := ∃ e : Ev, r = .returned e.val ∧ e.text.size ≤ 6 ∧ Below w.heap.size w w'
set_option maxRecDepth 100000 in
set_option maxHeartbeats 2000000 in
theorem drawEventOk_any (a : Option Addr) (cap n : Nat) (w : World) (h : Code w a n) (hn : n ≤ 1048576) :
    Calls Try.prog 50 #[.slice a n cap] w (DrawnEv w) := by
  have hcode : Code (w.alloc (.cells #[.int .i64 0, .int .i64 0, .int .u64 0, .int .i64 0, .string ⟨#[]⟩, .int .i64 0, .int .i64 0] 68)) a n := h.keep (by ((repeat (first | (with_reducible exact Below.refl _ _) | (with_reducible assumption) | (with_reducible refine Below.alloc ?_ ?_ _) | (with_reducible refine Below.setCell ?_ ?_ _) | (with_reducible refine Below.drew ?_) | (with_reducible refine below_setRow ?_ ?_ _) | (refine Below.trans ?_ (Below.mono (by assumption) ?_)))); all_goals (first | omega | (simp; done) | (simp; omega))))
  go_enter Try.func50, Try.ntmps50
  go_wp2_with fail
  refine (l1New_any a cap n _ hcode hn).mono ?_
  rintro r w1 ⟨B, rfl, hB, hc, hb1⟩
  have hBl := hc.lt
  have hz1 := hb1.size
  simp only [World.size_alloc] at hB hz1 hb1
  have hR1 := (hb1.block w.heap.size (by omega)).trans (heap_nth0 w _)
  go_wp2_with fail
  refine (l10Bent_any B w1 hc).mono ?_
  rintro r w2 ⟨⟨k, f, b, l, t, c, e⟩, rfl, ht, hu⟩
  have hoT := hu.oth.below (n := w.heap.size + 1) (by omega) hBl
  have HR := Lib.hid ((hoT.block w.heap.size (by omega)).trans hR1)
  have hz2 := hu.oth.size
  have kR := box_cells HR.out; have fR := box_frozen HR.out; have hBR := box_lt HR.out
  have hT : Below w.heap.size w w2 := Below.trans (Below.trans ((Below.refl _ _).alloc (Nat.le_refl _) _) (Below.mono hb1 (by omega))) (Below.mono hoT (by omega))
  clear hR1 hu hc hcode
  go_wp2
  refine bodyPost_ret (v := (⟨k, f, b, l, t, c, e⟩ : Ev).val) (results_cell Try.results50 rfl (run_loadVar_mid _ w.heap.size 0 68 (⟨k, f, b, l, t, c, e⟩ : Ev).cs _ (range_of_box (t := 68) (by (apply hset_eq; (repeat (first | (with_reducible exact HR.out) | (with_reducible apply hset_row) | (with_reducible apply hset_set) | (with_reducible exact heap_alloc_new _ _) | (with_reducible exact heap_snd _ _ _) | (with_reducible apply hset_alloc) | (with_reducible apply hset_drew) | (with_reducible apply hset_other; case hk => first | omega | (simp; omega)) | (with_reducible apply hset_row_other; case hk => first | omega | (simp; omega)))); all_goals rfl))) Try.underlying68 rfl size_EventX)) rfl ⟨_, rfl, ht, by ((repeat (first | (with_reducible exact Below.refl _ _) | (with_reducible assumption) | (with_reducible refine Below.alloc ?_ ?_ _) | (with_reducible refine Below.setCell ?_ ?_ _) | (with_reducible refine Below.drew ?_) | (with_reducible refine below_setRow ?_ ?_ _) | (refine Below.trans ?_ (Below.mono (by assumption) ?_)))); all_goals (first | omega | (simp; done) | (simp; omega)))⟩
theorem evOk_shape {e : Ev} (h : eventOk e = true) : (∃ l, e = ⟨1, 0, 0, l, ⟨#[]⟩, 0, 0⟩) ∨ (∃ f b, e = ⟨2, f, b, 0, ⟨#[]⟩, 0, 0⟩) ∨ (∃ f l, e = ⟨3, f, 0, l, ⟨#[]⟩, 0, 0⟩) ∨ (∃ t, t ≠ ⟨#[]⟩ ∧ e = ⟨4, 0, 0, 0, t, 0, 0⟩) ∨ e = ⟨5, 0, 0, 0, ⟨#[]⟩, 0, 0⟩ ∨ (∃ f l, e = ⟨6, f, 0, l, ⟨#[]⟩, 0, 0⟩) ∨ e = ⟨7, 0, 0, 0, ⟨#[]⟩, 0, 0⟩ ∨ e = ⟨8, 0, 0, 0, ⟨#[]⟩, 0, 0⟩ ∨ (∃ a, e = ⟨9, 0, 0, 0, ⟨#[]⟩, 0, a⟩) ∨ (∃ c a, e = ⟨10, 0, 0, 0, ⟨#[]⟩, c, a⟩) := by
  obtain ⟨k, f, b, l, t, c, a⟩ := e
  simp only [eventOk, Bool.and_eq_true, decide_eq_true_eq] at h
  obtain ⟨⟨⟨⟨h1, h2⟩, h3⟩, h4⟩, h5⟩ := h
  rcases kinds k with rfl | rfl | rfl | rfl | rfl | rfl | rfl | rfl | rfl | rfl | hk
  all_goals (try simp [bareE, tailOk, isEmpty_iff] at h2 h5)
  all_goals (try simp_all)
end Go.Proofs.Ytkmenljbajlneaa

/- Draws of events and of lists of events. -/
import Derived.Test.YtaoejdbkbnonpaaDrawR
import Derived.Test.YtaoejdbkbnonpaaEvMark
import Derived.Deep.MidRow
namespace Go.Proofs.Ytaoejdbkbnonpaa
set_option linter.unusedSimpArgs false
set_option linter.unusedVariables false
open Go.ChangeShapes Go.WideShapes Go.ChangeAt Go.RowKit Go.BigFrame

theorem Up.set {B b o : Nat} {w0 w : World} (h : Up B w0 w) (hb : w0.heap.size ≤ b) (hB : B < w0.heap.size) (v : Value) : Up B w0 (w.setCell ⟨b, o, none⟩ v) := by
  have hsz := h.oth.size
  have hk : ∀ k, k < w0.heap.size → (w.setCell ⟨b, o, none⟩ v).heap[k]? = w.heap[k]? := fun k hk => Below.heap_setCell w ⟨b, o, none⟩ v k (by simp; omega)
  refine ⟨h.cur.same fun k hk' => hk k (by omega), ?_⟩
  have h' : w0.grownBy w (some B) := h.oth
  obtain ⟨a, b', c, d, e⟩ := h'
  exact ⟨a, b', c, by simpa [World.setCell] using d, fun k hk' hn => (hk k hk').trans (e k hk' hn)⟩
theorem Up.drew {B : Nat} {w0 w : World} (h : Up B w0 w) : Up B w0 w.drew := by
  obtain ⟨hc, ho⟩ := h
  have h' : w0.grownBy w (some B) := ho
  obtain ⟨a, b', c, d, e⟩ := h'
  exact ⟨hc, ⟨a, b', c, d, e⟩⟩
theorem heap_snd (w : World) (o p : Obj) : ((w.alloc o).alloc p).heap[w.heap.size + 1]? = some p := hset_new (by simp)
theorem w64_mid {u : Int} (h0 : -1000000 ≤ u) (h1 : u ≤ 1000000) : W64 u := by
  unfold W64; simp [Lit.wf, IntKind.min, IntKind.max, IntKind.signed, IntKind.bits]; omega
def DrawnS (B : Nat) (l : List ByteArray) (w : World) (r : Ending) (w' : World) : Prop := ∃ x : ByteArray, r = .returned (.string x) ∧ x ∈ l ∧ Cur w' B ∧ Oth B w w'
theorem l1Pick_any (B g cap : Nat) (l : List ByteArray) (t : TypeId) (w : World) (hc : Cur w B) (hg : g ≠ B) (h : w.heap[g]? = some (.cells (l.map Value.string).toArray t (0, 0))) (h0 : 0 < l.length) (h1 : l.length ≤ 256) :
    Calls Try.prog 142 #[.pointer (some ⟨B, 0, none⟩), .slice (some ⟨g, 0, none⟩) l.length cap] w (DrawnS B l w) := by
  obtain ⟨n, hn⟩ : ∃ n, n = l.length := ⟨_, rfl⟩
  rw [← hn] at h0 h1 ⊢
  have HN := Lib.hid hn; clear hn
  have HH := Lib.hid h; clear h
  go_enter Try.func142, Try.ntmps142
  go_wp2_with fail
  refine (l1Below_any B n w hc (by omega) (by omega)).mono ?_
  rintro r w1 ⟨x, rfl, hx0, hx1, hc1, ho1⟩
  obtain ⟨k, rfl⟩ := Int.eq_ofNat_of_zero_le hx0
  have hgl : g < w.heap.size := box_lt HH.out
  have hb := (ho1.block hgl hg).trans HH.out
  have hk : k < l.length := by have := HN.out; omega
  obtain ⟨x, hx⟩ : ∃ x, x = l[k] := ⟨_, rfl⟩
  have hcx : w1.cell? ⟨g, k, none⟩ = some (.string x) := by simp [World.cell?, hb, hk, hx]
  have HM := Lib.hid (show x ∈ l from hx ▸ List.getElem_mem hk)
  clear hb hx
  go_wp2
  go_ret
  exact ⟨x, rfl, HM.out, hc1, ho1⟩
def DrawnE (B : Nat) (w : World) (r : Ending) (w' : World) : Prop := ∃ e : Ev, r = .returned e.val ∧ e.text.size ≤ 6 ∧ Up B w w'
theorem results_cellE {fn : Func} {p : Tmp} {ty : TypeId} (h : fn.results = #[.cell p ty]) {tmps : Array Value} {a : Addr} (hp : tmps.getD p undef = .pointer (some a)) {P : Program} {w : World} {v : Value} (hv : (loadVar ty a).run P w = .ok v w) : (results fn tmps).run P w = .ok v w := by
  have hp' : tmps[p]?.getD undef = .pointer (some a) := by simpa using hp
  simp only [results, h]
  simp [Sem.run_bind, Result.andThen, hp', asAddr, hv]
theorem range_of_boxE {w : World} {b : Nat} {cs : List Value} {t : TypeId} (h : w.heap[b]? = some (.cells cs.toArray t (0, 0))) : w.rangeAt b 0 cs := by
  intro j u hj
  simp [World.cell?, h, hj]
theorem size_EventX : (Try.prog.info? 78).map (·.size) = some 7 := by kernel_rfl
theorem fin_ev {fn : Func} {p : Tmp} (hres : fn.results = #[.cell p 78]) {B R : Nat} {w W : World} {a : Act} (e : Ev) (hp : a.tmps.getD p undef = .pointer (some ⟨R, 0, none⟩)) (hd : a.defers = []) (hF : W.heap[R]? = some (.cells e.cs.toArray 78 (0, 0))) (ht : e.text.size ≤ 6) (hu : Up B w W) : bodyPost Try.prog fn (DrawnE B w) .ret a W :=
  bodyPost_ret (v := e.val) (results_cellE hres hp (run_loadVar_mid W R 0 78 e.cs _ (range_of_boxE hF) Try.underlying78 rfl size_EventX)) hd ⟨e, rfl, ht, hu⟩
set_option maxRecDepth 100000 in
set_option maxHeartbeats 4000000 in
theorem l10Right_any (B : Nat) (w : World) (hc : Cur w B) : Calls Try.prog 143 #[.pointer (some ⟨B, 0, none⟩)] w (DrawnE B w) := by
  have hB := hc.lt
  have hu0 := Up.refl hc
  go_enter Try.func143, Try.ntmps143
  go_wp2_with fail
  refine (l1Below_any B 10 _ (Up.cur (by ((repeat (first | (with_reducible exact hu0) | (with_reducible refine Up.alloc ?_ hB _) | (with_reducible refine Up.set ?_ ?_ hB _) | (with_reducible refine Up.drew ?_))); all_goals (first | omega | (simp; done) | (simp; omega))))) (by omega) (by omega)).mono ?_
  rintro r w1 ⟨x, rfl, hx0, hx1, hc1, ho1⟩
  have hu1 : Up B w w1 := Up.step (by ((repeat (first | (with_reducible exact hu0) | (with_reducible refine Up.alloc ?_ hB _) | (with_reducible refine Up.set ?_ ?_ hB _) | (with_reducible refine Up.drew ?_))); all_goals (first | omega | (simp; done) | (simp; omega)))) hc1 ho1
  have hz1 := ho1.size
  try simp only [World.size_alloc, World.size_setCell, World.size_drew, size_setRow] at hz1
  have hR_ : w1.heap[w.heap.size]? = some (.cells #[.int .i64 0, .int .i64 0, .int .u64 0, .int .i64 0, .string ⟨#[]⟩, .int .i64 0, .int .i64 0] 78 (0, 0)) := (ho1.block (b := w.heap.size) (by first | omega | (simp; done) | (simp; omega)) (by omega)).trans (by (apply hset_eq; (repeat (first | (with_reducible exact HR.out) | (with_reducible apply hset_row) | (with_reducible apply hset_set) | (with_reducible exact heap_alloc_new _ _) | (with_reducible exact heap_snd _ _ _) | (with_reducible apply hset_alloc) | (with_reducible apply hset_drew) | (with_reducible apply hset_other; case hk => first | omega | (simp; omega)) | (with_reducible apply hset_row_other; case hk => first | omega | (simp; omega)))); all_goals rfl))
  try clear HR kR fR hBR
  have kR := box_cells hR_; have fR := box_frozen hR_; have hBR := box_lt hR_; have HR := Lib.hid hR_; clear hR_
  clear hc1 ho1
  rcases (show x = 0 ∨ x = 1 ∨ x = 2 ∨ x = 3 ∨ x = 4 ∨ x = 5 ∨ x = 6 ∨ x = 7 ∨ x = 8 ∨ x = 9 by omega) with rfl | rfl | rfl | rfl | rfl | rfl | rfl | rfl | rfl | rfl
  · skip
    go_wp2_with fail
    refine (l1Below_any B 40 _ (Up.cur (by ((repeat (first | (with_reducible exact hu1) | (with_reducible refine Up.alloc ?_ hB _) | (with_reducible refine Up.set ?_ ?_ hB _) | (with_reducible refine Up.drew ?_))); all_goals (first | omega | (simp; done) | (simp; omega))))) (by omega) (by omega)).mono ?_
    rintro r w2 ⟨y, rfl, hy0, hy1, hc2, ho2⟩
    have hu2 : Up B w w2 := Up.step (by ((repeat (first | (with_reducible exact hu1) | (with_reducible refine Up.alloc ?_ hB _) | (with_reducible refine Up.set ?_ ?_ hB _) | (with_reducible refine Up.drew ?_))); all_goals (first | omega | (simp; done) | (simp; omega)))) hc2 ho2
    have hz2 := ho2.size
    try simp only [World.size_alloc, World.size_setCell, World.size_drew, size_setRow] at hz2
    have hR_ : w2.heap[w.heap.size]? = some (.cells #[.int .i64 0, .int .i64 0, .int .u64 0, .int .i64 0, .string ⟨#[]⟩, .int .i64 0, .int .i64 0] 78 (0, 0)) := (ho2.block (b := w.heap.size) (by first | omega | (simp; done) | (simp; omega)) (by omega)).trans (by (apply hset_eq; (repeat (first | (with_reducible exact HR.out) | (with_reducible apply hset_row) | (with_reducible apply hset_set) | (with_reducible exact heap_alloc_new _ _) | (with_reducible exact heap_snd _ _ _) | (with_reducible apply hset_alloc) | (with_reducible apply hset_drew) | (with_reducible apply hset_other; case hk => first | omega | (simp; omega)) | (with_reducible apply hset_row_other; case hk => first | omega | (simp; omega)))); all_goals rfl))
    try clear HR kR fR hBR
    have kR := box_cells hR_; have fR := box_frozen hR_; have hBR := box_lt hR_; have HR := Lib.hid hR_; clear hR_
    have hE_ : w2.heap[w1.heap.size]? = some (.cells #[.int .i64 1, .int .i64 0, .int .u64 0, .int .i64 0, .string ⟨#[]⟩, .int .i64 0, .int .i64 0] 78 (0, 0)) := (ho2.block (b := w1.heap.size) (by first | omega | (simp; done) | (simp; omega)) (by omega)).trans (by (apply hset_eq; (repeat (first | (with_reducible exact HE.out) | (with_reducible apply hset_row) | (with_reducible apply hset_set) | (with_reducible exact heap_alloc_new _ _) | (with_reducible exact heap_snd _ _ _) | (with_reducible apply hset_alloc) | (with_reducible apply hset_drew) | (with_reducible apply hset_other; case hk => first | omega | (simp; omega)) | (with_reducible apply hset_row_other; case hk => first | omega | (simp; omega)))); all_goals rfl))
    try clear HE kE fE hBE
    have kE := box_cells hE_; have fE := box_frozen hE_; have hBE := box_lt hE_; have HE := Lib.hid hE_; clear hE_
    clear hc2 ho2
    go_wp2
    exact fin_ev Try.results143 ⟨1, 0, 0, y, ⟨#[]⟩, 0, 0⟩ rfl rfl (by (apply hset_eq; (repeat (first | (with_reducible exact HR.out) | (with_reducible apply hset_row) | (with_reducible apply hset_set) | (with_reducible exact heap_alloc_new _ _) | (with_reducible exact heap_snd _ _ _) | (with_reducible apply hset_alloc) | (with_reducible apply hset_drew) | (with_reducible apply hset_other; case hk => first | omega | (simp; omega)) | (with_reducible apply hset_row_other; case hk => first | omega | (simp; omega)))); all_goals rfl)) (show (⟨#[]⟩ : ByteArray).size ≤ 6 by decide) (by ((repeat (first | (with_reducible exact hu2) | (with_reducible refine Up.alloc ?_ hB _) | (with_reducible refine Up.set ?_ ?_ hB _) | (with_reducible refine Up.drew ?_))); all_goals (first | omega | (simp; done) | (simp; omega))))
  · skip
    go_wp2_with fail
    refine (l1Below_any B 12 _ (Up.cur (by ((repeat (first | (with_reducible exact hu1) | (with_reducible refine Up.alloc ?_ hB _) | (with_reducible refine Up.set ?_ ?_ hB _) | (with_reducible refine Up.drew ?_))); all_goals (first | omega | (simp; done) | (simp; omega))))) (by omega) (by omega)).mono ?_
    rintro r w2 ⟨y, rfl, hy0, hy1, hc2, ho2⟩
    have hu2 : Up B w w2 := Up.step (by ((repeat (first | (with_reducible exact hu1) | (with_reducible refine Up.alloc ?_ hB _) | (with_reducible refine Up.set ?_ ?_ hB _) | (with_reducible refine Up.drew ?_))); all_goals (first | omega | (simp; done) | (simp; omega)))) hc2 ho2
    have hz2 := ho2.size
    try simp only [World.size_alloc, World.size_setCell, World.size_drew, size_setRow] at hz2
    have hR_ : w2.heap[w.heap.size]? = some (.cells #[.int .i64 0, .int .i64 0, .int .u64 0, .int .i64 0, .string ⟨#[]⟩, .int .i64 0, .int .i64 0] 78 (0, 0)) := (ho2.block (b := w.heap.size) (by first | omega | (simp; done) | (simp; omega)) (by omega)).trans (by (apply hset_eq; (repeat (first | (with_reducible exact HR.out) | (with_reducible apply hset_row) | (with_reducible apply hset_set) | (with_reducible exact heap_alloc_new _ _) | (with_reducible exact heap_snd _ _ _) | (with_reducible apply hset_alloc) | (with_reducible apply hset_drew) | (with_reducible apply hset_other; case hk => first | omega | (simp; omega)) | (with_reducible apply hset_row_other; case hk => first | omega | (simp; omega)))); all_goals rfl))
    try clear HR kR fR hBR
    have kR := box_cells hR_; have fR := box_frozen hR_; have hBR := box_lt hR_; have HR := Lib.hid hR_; clear hR_
    have hE_ : w2.heap[w1.heap.size]? = some (.cells #[.int .i64 2, .int .i64 0, .int .u64 0, .int .i64 0, .string ⟨#[]⟩, .int .i64 0, .int .i64 0] 78 (0, 0)) := (ho2.block (b := w1.heap.size) (by first | omega | (simp; done) | (simp; omega)) (by omega)).trans (by (apply hset_eq; (repeat (first | (with_reducible exact HE.out) | (with_reducible apply hset_row) | (with_reducible apply hset_set) | (with_reducible exact heap_alloc_new _ _) | (with_reducible exact heap_snd _ _ _) | (with_reducible apply hset_alloc) | (with_reducible apply hset_drew) | (with_reducible apply hset_other; case hk => first | omega | (simp; omega)) | (with_reducible apply hset_row_other; case hk => first | omega | (simp; omega)))); all_goals rfl))
    try clear HE kE fE hBE
    have kE := box_cells hE_; have fE := box_frozen hE_; have hBE := box_lt hE_; have HE := Lib.hid hE_; clear hE_
    clear hc2 ho2
    go_wp2_with fail
    refine (l1Wide_any B _ (Up.cur (by ((repeat (first | (with_reducible exact hu2) | (with_reducible refine Up.alloc ?_ hB _) | (with_reducible refine Up.set ?_ ?_ hB _) | (with_reducible refine Up.drew ?_))); all_goals (first | omega | (simp; done) | (simp; omega)))))).mono ?_
    rintro r w3 ⟨z, rfl, _, hc3, ho3⟩
    have hu3 : Up B w w3 := Up.step (by ((repeat (first | (with_reducible exact hu2) | (with_reducible refine Up.alloc ?_ hB _) | (with_reducible refine Up.set ?_ ?_ hB _) | (with_reducible refine Up.drew ?_))); all_goals (first | omega | (simp; done) | (simp; omega)))) hc3 ho3
    have hz3 := ho3.size
    try simp only [World.size_alloc, World.size_setCell, World.size_drew, size_setRow] at hz3
    have hR_ : w3.heap[w.heap.size]? = some (.cells #[.int .i64 0, .int .i64 0, .int .u64 0, .int .i64 0, .string ⟨#[]⟩, .int .i64 0, .int .i64 0] 78 (0, 0)) := (ho3.block (b := w.heap.size) (by first | omega | (simp; done) | (simp; omega)) (by omega)).trans (by (apply hset_eq; (repeat (first | (with_reducible exact HR.out) | (with_reducible apply hset_row) | (with_reducible apply hset_set) | (with_reducible exact heap_alloc_new _ _) | (with_reducible exact heap_snd _ _ _) | (with_reducible apply hset_alloc) | (with_reducible apply hset_drew) | (with_reducible apply hset_other; case hk => first | omega | (simp; omega)) | (with_reducible apply hset_row_other; case hk => first | omega | (simp; omega)))); all_goals rfl))
    try clear HR kR fR hBR
    have kR := box_cells hR_; have fR := box_frozen hR_; have hBR := box_lt hR_; have HR := Lib.hid hR_; clear hR_
    have hE_ : w3.heap[w1.heap.size]? = some (.cells #[.int .i64 2, .int .i64 (1 + y), .int .u64 0, .int .i64 0, .string ⟨#[]⟩, .int .i64 0, .int .i64 0] 78 (0, 0)) := (ho3.block (b := w1.heap.size) (by first | omega | (simp; done) | (simp; omega)) (by omega)).trans (by (apply hset_eq; (repeat (first | (with_reducible exact HE.out) | (with_reducible apply hset_row) | (with_reducible apply hset_set) | (with_reducible exact heap_alloc_new _ _) | (with_reducible exact heap_snd _ _ _) | (with_reducible apply hset_alloc) | (with_reducible apply hset_drew) | (with_reducible apply hset_other; case hk => first | omega | (simp; omega)) | (with_reducible apply hset_row_other; case hk => first | omega | (simp; omega)))); all_goals rfl))
    try clear HE kE fE hBE
    have kE := box_cells hE_; have fE := box_frozen hE_; have hBE := box_lt hE_; have HE := Lib.hid hE_; clear hE_
    clear hc3 ho3
    go_wp2
    exact fin_ev Try.results143 ⟨2, 1 + y, z, 0, ⟨#[]⟩, 0, 0⟩ rfl rfl (by (apply hset_eq; (repeat (first | (with_reducible exact HR.out) | (with_reducible apply hset_row) | (with_reducible apply hset_set) | (with_reducible exact heap_alloc_new _ _) | (with_reducible exact heap_snd _ _ _) | (with_reducible apply hset_alloc) | (with_reducible apply hset_drew) | (with_reducible apply hset_other; case hk => first | omega | (simp; omega)) | (with_reducible apply hset_row_other; case hk => first | omega | (simp; omega)))); all_goals rfl)) (show (⟨#[]⟩ : ByteArray).size ≤ 6 by decide) (by ((repeat (first | (with_reducible exact hu3) | (with_reducible refine Up.alloc ?_ hB _) | (with_reducible refine Up.set ?_ ?_ hB _) | (with_reducible refine Up.drew ?_))); all_goals (first | omega | (simp; done) | (simp; omega))))
  · skip
    go_wp2_with fail
    refine (l1Below_any B 12 _ (Up.cur (by ((repeat (first | (with_reducible exact hu1) | (with_reducible refine Up.alloc ?_ hB _) | (with_reducible refine Up.set ?_ ?_ hB _) | (with_reducible refine Up.drew ?_))); all_goals (first | omega | (simp; done) | (simp; omega))))) (by omega) (by omega)).mono ?_
    rintro r w2 ⟨y, rfl, hy0, hy1, hc2, ho2⟩
    have hu2 : Up B w w2 := Up.step (by ((repeat (first | (with_reducible exact hu1) | (with_reducible refine Up.alloc ?_ hB _) | (with_reducible refine Up.set ?_ ?_ hB _) | (with_reducible refine Up.drew ?_))); all_goals (first | omega | (simp; done) | (simp; omega)))) hc2 ho2
    have hz2 := ho2.size
    try simp only [World.size_alloc, World.size_setCell, World.size_drew, size_setRow] at hz2
    have hR_ : w2.heap[w.heap.size]? = some (.cells #[.int .i64 0, .int .i64 0, .int .u64 0, .int .i64 0, .string ⟨#[]⟩, .int .i64 0, .int .i64 0] 78 (0, 0)) := (ho2.block (b := w.heap.size) (by first | omega | (simp; done) | (simp; omega)) (by omega)).trans (by (apply hset_eq; (repeat (first | (with_reducible exact HR.out) | (with_reducible apply hset_row) | (with_reducible apply hset_set) | (with_reducible exact heap_alloc_new _ _) | (with_reducible exact heap_snd _ _ _) | (with_reducible apply hset_alloc) | (with_reducible apply hset_drew) | (with_reducible apply hset_other; case hk => first | omega | (simp; omega)) | (with_reducible apply hset_row_other; case hk => first | omega | (simp; omega)))); all_goals rfl))
    try clear HR kR fR hBR
    have kR := box_cells hR_; have fR := box_frozen hR_; have hBR := box_lt hR_; have HR := Lib.hid hR_; clear hR_
    have hE_ : w2.heap[w1.heap.size]? = some (.cells #[.int .i64 3, .int .i64 0, .int .u64 0, .int .i64 0, .string ⟨#[]⟩, .int .i64 0, .int .i64 0] 78 (0, 0)) := (ho2.block (b := w1.heap.size) (by first | omega | (simp; done) | (simp; omega)) (by omega)).trans (by (apply hset_eq; (repeat (first | (with_reducible exact HE.out) | (with_reducible apply hset_row) | (with_reducible apply hset_set) | (with_reducible exact heap_alloc_new _ _) | (with_reducible exact heap_snd _ _ _) | (with_reducible apply hset_alloc) | (with_reducible apply hset_drew) | (with_reducible apply hset_other; case hk => first | omega | (simp; omega)) | (with_reducible apply hset_row_other; case hk => first | omega | (simp; omega)))); all_goals rfl))
    try clear HE kE fE hBE
    have kE := box_cells hE_; have fE := box_frozen hE_; have hBE := box_lt hE_; have HE := Lib.hid hE_; clear hE_
    clear hc2 ho2
    go_wp2_with fail
    refine (l1Below_any B 12 _ (Up.cur (by ((repeat (first | (with_reducible exact hu2) | (with_reducible refine Up.alloc ?_ hB _) | (with_reducible refine Up.set ?_ ?_ hB _) | (with_reducible refine Up.drew ?_))); all_goals (first | omega | (simp; done) | (simp; omega))))) (by omega) (by omega)).mono ?_
    rintro r w3 ⟨z, rfl, hz0, hz1, hc3, ho3⟩
    have hu3 : Up B w w3 := Up.step (by ((repeat (first | (with_reducible exact hu2) | (with_reducible refine Up.alloc ?_ hB _) | (with_reducible refine Up.set ?_ ?_ hB _) | (with_reducible refine Up.drew ?_))); all_goals (first | omega | (simp; done) | (simp; omega)))) hc3 ho3
    have hz3 := ho3.size
    try simp only [World.size_alloc, World.size_setCell, World.size_drew, size_setRow] at hz3
    have hR_ : w3.heap[w.heap.size]? = some (.cells #[.int .i64 0, .int .i64 0, .int .u64 0, .int .i64 0, .string ⟨#[]⟩, .int .i64 0, .int .i64 0] 78 (0, 0)) := (ho3.block (b := w.heap.size) (by first | omega | (simp; done) | (simp; omega)) (by omega)).trans (by (apply hset_eq; (repeat (first | (with_reducible exact HR.out) | (with_reducible apply hset_row) | (with_reducible apply hset_set) | (with_reducible exact heap_alloc_new _ _) | (with_reducible exact heap_snd _ _ _) | (with_reducible apply hset_alloc) | (with_reducible apply hset_drew) | (with_reducible apply hset_other; case hk => first | omega | (simp; omega)) | (with_reducible apply hset_row_other; case hk => first | omega | (simp; omega)))); all_goals rfl))
    try clear HR kR fR hBR
    have kR := box_cells hR_; have fR := box_frozen hR_; have hBR := box_lt hR_; have HR := Lib.hid hR_; clear hR_
    have hE_ : w3.heap[w1.heap.size]? = some (.cells #[.int .i64 3, .int .i64 (1 + y), .int .u64 0, .int .i64 0, .string ⟨#[]⟩, .int .i64 0, .int .i64 0] 78 (0, 0)) := (ho3.block (b := w1.heap.size) (by first | omega | (simp; done) | (simp; omega)) (by omega)).trans (by (apply hset_eq; (repeat (first | (with_reducible exact HE.out) | (with_reducible apply hset_row) | (with_reducible apply hset_set) | (with_reducible exact heap_alloc_new _ _) | (with_reducible exact heap_snd _ _ _) | (with_reducible apply hset_alloc) | (with_reducible apply hset_drew) | (with_reducible apply hset_other; case hk => first | omega | (simp; omega)) | (with_reducible apply hset_row_other; case hk => first | omega | (simp; omega)))); all_goals rfl))
    try clear HE kE fE hBE
    have kE := box_cells hE_; have fE := box_frozen hE_; have hBE := box_lt hE_; have HE := Lib.hid hE_; clear hE_
    clear hc3 ho3
    go_wp2
    exact fin_ev Try.results143 ⟨3, 1 + y, 0, z, ⟨#[]⟩, 0, 0⟩ rfl rfl (by (apply hset_eq; (repeat (first | (with_reducible exact HR.out) | (with_reducible apply hset_row) | (with_reducible apply hset_set) | (with_reducible exact heap_alloc_new _ _) | (with_reducible exact heap_snd _ _ _) | (with_reducible apply hset_alloc) | (with_reducible apply hset_drew) | (with_reducible apply hset_other; case hk => first | omega | (simp; omega)) | (with_reducible apply hset_row_other; case hk => first | omega | (simp; omega)))); all_goals rfl)) (show (⟨#[]⟩ : ByteArray).size ≤ 6 by decide) (by ((repeat (first | (with_reducible exact hu3) | (with_reducible refine Up.alloc ?_ hB _) | (with_reducible refine Up.set ?_ ?_ hB _) | (with_reducible refine Up.drew ?_))); all_goals (first | omega | (simp; done) | (simp; omega))))
  · skip
    go_wp2_with fail
    refine (l1Pick_any B (w1.heap.size + 1) 4 [⟨#[97]⟩, ⟨#[98, 99]⟩, ⟨#[195, 169]⟩, ⟨#[255]⟩] _ _ (Up.cur (by ((repeat (first | (with_reducible exact hu1) | (with_reducible refine Up.alloc ?_ hB _) | (with_reducible refine Up.set ?_ ?_ hB _) | (with_reducible refine Up.drew ?_))); all_goals (first | omega | (simp; done) | (simp; omega))))) (by omega) (by (apply hset_eq; (repeat (first | (with_reducible exact HR.out) | (with_reducible apply hset_row) | (with_reducible apply hset_set) | (with_reducible exact heap_alloc_new _ _) | (with_reducible exact heap_snd _ _ _) | (with_reducible apply hset_alloc) | (with_reducible apply hset_drew) | (with_reducible apply hset_other; case hk => first | omega | (simp; omega)) | (with_reducible apply hset_row_other; case hk => first | omega | (simp; omega)))); all_goals rfl)) (by decide) (by decide)).mono ?_
    rintro r w2 ⟨y, rfl, hy, hc2, ho2⟩
    have hu2 : Up B w w2 := Up.step (by ((repeat (first | (with_reducible exact hu1) | (with_reducible refine Up.alloc ?_ hB _) | (with_reducible refine Up.set ?_ ?_ hB _) | (with_reducible refine Up.drew ?_))); all_goals (first | omega | (simp; done) | (simp; omega)))) hc2 ho2
    have hz2 := ho2.size
    try simp only [World.size_alloc, World.size_setCell, World.size_drew, size_setRow] at hz2
    have hR_ : w2.heap[w.heap.size]? = some (.cells #[.int .i64 0, .int .i64 0, .int .u64 0, .int .i64 0, .string ⟨#[]⟩, .int .i64 0, .int .i64 0] 78 (0, 0)) := (ho2.block (b := w.heap.size) (by first | omega | (simp; done) | (simp; omega)) (by omega)).trans (by (apply hset_eq; (repeat (first | (with_reducible exact HR.out) | (with_reducible apply hset_row) | (with_reducible apply hset_set) | (with_reducible exact heap_alloc_new _ _) | (with_reducible exact heap_snd _ _ _) | (with_reducible apply hset_alloc) | (with_reducible apply hset_drew) | (with_reducible apply hset_other; case hk => first | omega | (simp; omega)) | (with_reducible apply hset_row_other; case hk => first | omega | (simp; omega)))); all_goals rfl))
    try clear HR kR fR hBR
    have kR := box_cells hR_; have fR := box_frozen hR_; have hBR := box_lt hR_; have HR := Lib.hid hR_; clear hR_
    have hE_ : w2.heap[w1.heap.size]? = some (.cells #[.int .i64 4, .int .i64 0, .int .u64 0, .int .i64 0, .string ⟨#[]⟩, .int .i64 0, .int .i64 0] 78 (0, 0)) := (ho2.block (b := w1.heap.size) (by first | omega | (simp; done) | (simp; omega)) (by omega)).trans (by (apply hset_eq; (repeat (first | (with_reducible exact HE.out) | (with_reducible apply hset_row) | (with_reducible apply hset_set) | (with_reducible exact heap_alloc_new _ _) | (with_reducible exact heap_snd _ _ _) | (with_reducible apply hset_alloc) | (with_reducible apply hset_drew) | (with_reducible apply hset_other; case hk => first | omega | (simp; omega)) | (with_reducible apply hset_row_other; case hk => first | omega | (simp; omega)))); all_goals rfl))
    try clear HE kE fE hBE
    have kE := box_cells hE_; have fE := box_frozen hE_; have hBE := box_lt hE_; have HE := Lib.hid hE_; clear hE_
    clear hc2 ho2
    have hys : y.size ≤ 6 := by simp only [List.mem_cons, List.not_mem_nil, or_false] at hy; rcases hy with rfl | rfl | rfl | rfl <;> decide
    go_wp2
    exact fin_ev Try.results143 ⟨4, 0, 0, 0, y, 0, 0⟩ rfl rfl (by (apply hset_eq; (repeat (first | (with_reducible exact HR.out) | (with_reducible apply hset_row) | (with_reducible apply hset_set) | (with_reducible exact heap_alloc_new _ _) | (with_reducible exact heap_snd _ _ _) | (with_reducible apply hset_alloc) | (with_reducible apply hset_drew) | (with_reducible apply hset_other; case hk => first | omega | (simp; omega)) | (with_reducible apply hset_row_other; case hk => first | omega | (simp; omega)))); all_goals rfl)) (hys) (by ((repeat (first | (with_reducible exact hu2) | (with_reducible refine Up.alloc ?_ hB _) | (with_reducible refine Up.set ?_ ?_ hB _) | (with_reducible refine Up.drew ?_))); all_goals (first | omega | (simp; done) | (simp; omega))))
  · skip
    go_wp2
    exact fin_ev Try.results143 ⟨5, 0, 0, 0, ⟨#[]⟩, 0, 0⟩ rfl rfl (by (apply hset_eq; (repeat (first | (with_reducible exact HR.out) | (with_reducible apply hset_row) | (with_reducible apply hset_set) | (with_reducible exact heap_alloc_new _ _) | (with_reducible exact heap_snd _ _ _) | (with_reducible apply hset_alloc) | (with_reducible apply hset_drew) | (with_reducible apply hset_other; case hk => first | omega | (simp; omega)) | (with_reducible apply hset_row_other; case hk => first | omega | (simp; omega)))); all_goals rfl)) (show (⟨#[]⟩ : ByteArray).size ≤ 6 by decide) (by ((repeat (first | (with_reducible exact hu1) | (with_reducible refine Up.alloc ?_ hB _) | (with_reducible refine Up.set ?_ ?_ hB _) | (with_reducible refine Up.drew ?_))); all_goals (first | omega | (simp; done) | (simp; omega))))
  · skip
    go_wp2_with fail
    refine (l1Below_any B 12 _ (Up.cur (by ((repeat (first | (with_reducible exact hu1) | (with_reducible refine Up.alloc ?_ hB _) | (with_reducible refine Up.set ?_ ?_ hB _) | (with_reducible refine Up.drew ?_))); all_goals (first | omega | (simp; done) | (simp; omega))))) (by omega) (by omega)).mono ?_
    rintro r w2 ⟨y, rfl, hy0, hy1, hc2, ho2⟩
    have hu2 : Up B w w2 := Up.step (by ((repeat (first | (with_reducible exact hu1) | (with_reducible refine Up.alloc ?_ hB _) | (with_reducible refine Up.set ?_ ?_ hB _) | (with_reducible refine Up.drew ?_))); all_goals (first | omega | (simp; done) | (simp; omega)))) hc2 ho2
    have hz2 := ho2.size
    try simp only [World.size_alloc, World.size_setCell, World.size_drew, size_setRow] at hz2
    have hR_ : w2.heap[w.heap.size]? = some (.cells #[.int .i64 0, .int .i64 0, .int .u64 0, .int .i64 0, .string ⟨#[]⟩, .int .i64 0, .int .i64 0] 78 (0, 0)) := (ho2.block (b := w.heap.size) (by first | omega | (simp; done) | (simp; omega)) (by omega)).trans (by (apply hset_eq; (repeat (first | (with_reducible exact HR.out) | (with_reducible apply hset_row) | (with_reducible apply hset_set) | (with_reducible exact heap_alloc_new _ _) | (with_reducible exact heap_snd _ _ _) | (with_reducible apply hset_alloc) | (with_reducible apply hset_drew) | (with_reducible apply hset_other; case hk => first | omega | (simp; omega)) | (with_reducible apply hset_row_other; case hk => first | omega | (simp; omega)))); all_goals rfl))
    try clear HR kR fR hBR
    have kR := box_cells hR_; have fR := box_frozen hR_; have hBR := box_lt hR_; have HR := Lib.hid hR_; clear hR_
    have hE_ : w2.heap[w1.heap.size]? = some (.cells #[.int .i64 6, .int .i64 0, .int .u64 0, .int .i64 0, .string ⟨#[]⟩, .int .i64 0, .int .i64 0] 78 (0, 0)) := (ho2.block (b := w1.heap.size) (by first | omega | (simp; done) | (simp; omega)) (by omega)).trans (by (apply hset_eq; (repeat (first | (with_reducible exact HE.out) | (with_reducible apply hset_row) | (with_reducible apply hset_set) | (with_reducible exact heap_alloc_new _ _) | (with_reducible exact heap_snd _ _ _) | (with_reducible apply hset_alloc) | (with_reducible apply hset_drew) | (with_reducible apply hset_other; case hk => first | omega | (simp; omega)) | (with_reducible apply hset_row_other; case hk => first | omega | (simp; omega)))); all_goals rfl))
    try clear HE kE fE hBE
    have kE := box_cells hE_; have fE := box_frozen hE_; have hBE := box_lt hE_; have HE := Lib.hid hE_; clear hE_
    clear hc2 ho2
    go_wp2_with fail
    refine (l1Below_any B 12 _ (Up.cur (by ((repeat (first | (with_reducible exact hu2) | (with_reducible refine Up.alloc ?_ hB _) | (with_reducible refine Up.set ?_ ?_ hB _) | (with_reducible refine Up.drew ?_))); all_goals (first | omega | (simp; done) | (simp; omega))))) (by omega) (by omega)).mono ?_
    rintro r w3 ⟨z, rfl, hz0, hz1, hc3, ho3⟩
    have hu3 : Up B w w3 := Up.step (by ((repeat (first | (with_reducible exact hu2) | (with_reducible refine Up.alloc ?_ hB _) | (with_reducible refine Up.set ?_ ?_ hB _) | (with_reducible refine Up.drew ?_))); all_goals (first | omega | (simp; done) | (simp; omega)))) hc3 ho3
    have hz3 := ho3.size
    try simp only [World.size_alloc, World.size_setCell, World.size_drew, size_setRow] at hz3
    have hR_ : w3.heap[w.heap.size]? = some (.cells #[.int .i64 0, .int .i64 0, .int .u64 0, .int .i64 0, .string ⟨#[]⟩, .int .i64 0, .int .i64 0] 78 (0, 0)) := (ho3.block (b := w.heap.size) (by first | omega | (simp; done) | (simp; omega)) (by omega)).trans (by (apply hset_eq; (repeat (first | (with_reducible exact HR.out) | (with_reducible apply hset_row) | (with_reducible apply hset_set) | (with_reducible exact heap_alloc_new _ _) | (with_reducible exact heap_snd _ _ _) | (with_reducible apply hset_alloc) | (with_reducible apply hset_drew) | (with_reducible apply hset_other; case hk => first | omega | (simp; omega)) | (with_reducible apply hset_row_other; case hk => first | omega | (simp; omega)))); all_goals rfl))
    try clear HR kR fR hBR
    have kR := box_cells hR_; have fR := box_frozen hR_; have hBR := box_lt hR_; have HR := Lib.hid hR_; clear hR_
    have hE_ : w3.heap[w1.heap.size]? = some (.cells #[.int .i64 6, .int .i64 (1 + y), .int .u64 0, .int .i64 0, .string ⟨#[]⟩, .int .i64 0, .int .i64 0] 78 (0, 0)) := (ho3.block (b := w1.heap.size) (by first | omega | (simp; done) | (simp; omega)) (by omega)).trans (by (apply hset_eq; (repeat (first | (with_reducible exact HE.out) | (with_reducible apply hset_row) | (with_reducible apply hset_set) | (with_reducible exact heap_alloc_new _ _) | (with_reducible exact heap_snd _ _ _) | (with_reducible apply hset_alloc) | (with_reducible apply hset_drew) | (with_reducible apply hset_other; case hk => first | omega | (simp; omega)) | (with_reducible apply hset_row_other; case hk => first | omega | (simp; omega)))); all_goals rfl))
    try clear HE kE fE hBE
    have kE := box_cells hE_; have fE := box_frozen hE_; have hBE := box_lt hE_; have HE := Lib.hid hE_; clear hE_
    clear hc3 ho3
    go_wp2
    exact fin_ev Try.results143 ⟨6, 1 + y, 0, z, ⟨#[]⟩, 0, 0⟩ rfl rfl (by (apply hset_eq; (repeat (first | (with_reducible exact HR.out) | (with_reducible apply hset_row) | (with_reducible apply hset_set) | (with_reducible exact heap_alloc_new _ _) | (with_reducible exact heap_snd _ _ _) | (with_reducible apply hset_alloc) | (with_reducible apply hset_drew) | (with_reducible apply hset_other; case hk => first | omega | (simp; omega)) | (with_reducible apply hset_row_other; case hk => first | omega | (simp; omega)))); all_goals rfl)) (show (⟨#[]⟩ : ByteArray).size ≤ 6 by decide) (by ((repeat (first | (with_reducible exact hu3) | (with_reducible refine Up.alloc ?_ hB _) | (with_reducible refine Up.set ?_ ?_ hB _) | (with_reducible refine Up.drew ?_))); all_goals (first | omega | (simp; done) | (simp; omega))))
  · skip
    go_wp2
    exact fin_ev Try.results143 ⟨7, 0, 0, 0, ⟨#[]⟩, 0, 0⟩ rfl rfl (by (apply hset_eq; (repeat (first | (with_reducible exact HR.out) | (with_reducible apply hset_row) | (with_reducible apply hset_set) | (with_reducible exact heap_alloc_new _ _) | (with_reducible exact heap_snd _ _ _) | (with_reducible apply hset_alloc) | (with_reducible apply hset_drew) | (with_reducible apply hset_other; case hk => first | omega | (simp; omega)) | (with_reducible apply hset_row_other; case hk => first | omega | (simp; omega)))); all_goals rfl)) (show (⟨#[]⟩ : ByteArray).size ≤ 6 by decide) (by ((repeat (first | (with_reducible exact hu1) | (with_reducible refine Up.alloc ?_ hB _) | (with_reducible refine Up.set ?_ ?_ hB _) | (with_reducible refine Up.drew ?_))); all_goals (first | omega | (simp; done) | (simp; omega))))
  · skip
    go_wp2
    exact fin_ev Try.results143 ⟨8, 0, 0, 0, ⟨#[]⟩, 0, 0⟩ rfl rfl (by (apply hset_eq; (repeat (first | (with_reducible exact HR.out) | (with_reducible apply hset_row) | (with_reducible apply hset_set) | (with_reducible exact heap_alloc_new _ _) | (with_reducible exact heap_snd _ _ _) | (with_reducible apply hset_alloc) | (with_reducible apply hset_drew) | (with_reducible apply hset_other; case hk => first | omega | (simp; omega)) | (with_reducible apply hset_row_other; case hk => first | omega | (simp; omega)))); all_goals rfl)) (show (⟨#[]⟩ : ByteArray).size ≤ 6 by decide) (by ((repeat (first | (with_reducible exact hu1) | (with_reducible refine Up.alloc ?_ hB _) | (with_reducible refine Up.set ?_ ?_ hB _) | (with_reducible refine Up.drew ?_))); all_goals (first | omega | (simp; done) | (simp; omega))))
  · skip
    go_wp2_with fail
    refine (l1Below_any B 99 _ (Up.cur (by ((repeat (first | (with_reducible exact hu1) | (with_reducible refine Up.alloc ?_ hB _) | (with_reducible refine Up.set ?_ ?_ hB _) | (with_reducible refine Up.drew ?_))); all_goals (first | omega | (simp; done) | (simp; omega))))) (by omega) (by omega)).mono ?_
    rintro r w2 ⟨y, rfl, hy0, hy1, hc2, ho2⟩
    have hu2 : Up B w w2 := Up.step (by ((repeat (first | (with_reducible exact hu1) | (with_reducible refine Up.alloc ?_ hB _) | (with_reducible refine Up.set ?_ ?_ hB _) | (with_reducible refine Up.drew ?_))); all_goals (first | omega | (simp; done) | (simp; omega)))) hc2 ho2
    have hz2 := ho2.size
    try simp only [World.size_alloc, World.size_setCell, World.size_drew, size_setRow] at hz2
    have hR_ : w2.heap[w.heap.size]? = some (.cells #[.int .i64 0, .int .i64 0, .int .u64 0, .int .i64 0, .string ⟨#[]⟩, .int .i64 0, .int .i64 0] 78 (0, 0)) := (ho2.block (b := w.heap.size) (by first | omega | (simp; done) | (simp; omega)) (by omega)).trans (by (apply hset_eq; (repeat (first | (with_reducible exact HR.out) | (with_reducible apply hset_row) | (with_reducible apply hset_set) | (with_reducible exact heap_alloc_new _ _) | (with_reducible exact heap_snd _ _ _) | (with_reducible apply hset_alloc) | (with_reducible apply hset_drew) | (with_reducible apply hset_other; case hk => first | omega | (simp; omega)) | (with_reducible apply hset_row_other; case hk => first | omega | (simp; omega)))); all_goals rfl))
    try clear HR kR fR hBR
    have kR := box_cells hR_; have fR := box_frozen hR_; have hBR := box_lt hR_; have HR := Lib.hid hR_; clear hR_
    have hE_ : w2.heap[w1.heap.size]? = some (.cells #[.int .i64 9, .int .i64 0, .int .u64 0, .int .i64 0, .string ⟨#[]⟩, .int .i64 0, .int .i64 0] 78 (0, 0)) := (ho2.block (b := w1.heap.size) (by first | omega | (simp; done) | (simp; omega)) (by omega)).trans (by (apply hset_eq; (repeat (first | (with_reducible exact HE.out) | (with_reducible apply hset_row) | (with_reducible apply hset_set) | (with_reducible exact heap_alloc_new _ _) | (with_reducible exact heap_snd _ _ _) | (with_reducible apply hset_alloc) | (with_reducible apply hset_drew) | (with_reducible apply hset_other; case hk => first | omega | (simp; omega)) | (with_reducible apply hset_row_other; case hk => first | omega | (simp; omega)))); all_goals rfl))
    try clear HE kE fE hBE
    have kE := box_cells hE_; have fE := box_frozen hE_; have hBE := box_lt hE_; have HE := Lib.hid hE_; clear hE_
    clear hc2 ho2
    go_wp2
    exact fin_ev Try.results143 ⟨9, 0, 0, 0, ⟨#[]⟩, 0, y⟩ rfl rfl (by (apply hset_eq; (repeat (first | (with_reducible exact HR.out) | (with_reducible apply hset_row) | (with_reducible apply hset_set) | (with_reducible exact heap_alloc_new _ _) | (with_reducible exact heap_snd _ _ _) | (with_reducible apply hset_alloc) | (with_reducible apply hset_drew) | (with_reducible apply hset_other; case hk => first | omega | (simp; omega)) | (with_reducible apply hset_row_other; case hk => first | omega | (simp; omega)))); all_goals rfl)) (show (⟨#[]⟩ : ByteArray).size ≤ 6 by decide) (by ((repeat (first | (with_reducible exact hu2) | (with_reducible refine Up.alloc ?_ hB _) | (with_reducible refine Up.set ?_ ?_ hB _) | (with_reducible refine Up.drew ?_))); all_goals (first | omega | (simp; done) | (simp; omega))))
  · skip
    go_wp2_with fail
    refine (l1Below_any B 99 _ (Up.cur (by ((repeat (first | (with_reducible exact hu1) | (with_reducible refine Up.alloc ?_ hB _) | (with_reducible refine Up.set ?_ ?_ hB _) | (with_reducible refine Up.drew ?_))); all_goals (first | omega | (simp; done) | (simp; omega))))) (by omega) (by omega)).mono ?_
    rintro r w2 ⟨y, rfl, hy0, hy1, hc2, ho2⟩
    have hu2 : Up B w w2 := Up.step (by ((repeat (first | (with_reducible exact hu1) | (with_reducible refine Up.alloc ?_ hB _) | (with_reducible refine Up.set ?_ ?_ hB _) | (with_reducible refine Up.drew ?_))); all_goals (first | omega | (simp; done) | (simp; omega)))) hc2 ho2
    have hz2 := ho2.size
    try simp only [World.size_alloc, World.size_setCell, World.size_drew, size_setRow] at hz2
    have hR_ : w2.heap[w.heap.size]? = some (.cells #[.int .i64 0, .int .i64 0, .int .u64 0, .int .i64 0, .string ⟨#[]⟩, .int .i64 0, .int .i64 0] 78 (0, 0)) := (ho2.block (b := w.heap.size) (by first | omega | (simp; done) | (simp; omega)) (by omega)).trans (by (apply hset_eq; (repeat (first | (with_reducible exact HR.out) | (with_reducible apply hset_row) | (with_reducible apply hset_set) | (with_reducible exact heap_alloc_new _ _) | (with_reducible exact heap_snd _ _ _) | (with_reducible apply hset_alloc) | (with_reducible apply hset_drew) | (with_reducible apply hset_other; case hk => first | omega | (simp; omega)) | (with_reducible apply hset_row_other; case hk => first | omega | (simp; omega)))); all_goals rfl))
    try clear HR kR fR hBR
    have kR := box_cells hR_; have fR := box_frozen hR_; have hBR := box_lt hR_; have HR := Lib.hid hR_; clear hR_
    have hE_ : w2.heap[w1.heap.size]? = some (.cells #[.int .i64 10, .int .i64 0, .int .u64 0, .int .i64 0, .string ⟨#[]⟩, .int .i64 0, .int .i64 0] 78 (0, 0)) := (ho2.block (b := w1.heap.size) (by first | omega | (simp; done) | (simp; omega)) (by omega)).trans (by (apply hset_eq; (repeat (first | (with_reducible exact HE.out) | (with_reducible apply hset_row) | (with_reducible apply hset_set) | (with_reducible exact heap_alloc_new _ _) | (with_reducible exact heap_snd _ _ _) | (with_reducible apply hset_alloc) | (with_reducible apply hset_drew) | (with_reducible apply hset_other; case hk => first | omega | (simp; omega)) | (with_reducible apply hset_row_other; case hk => first | omega | (simp; omega)))); all_goals rfl))
    try clear HE kE fE hBE
    have kE := box_cells hE_; have fE := box_frozen hE_; have hBE := box_lt hE_; have HE := Lib.hid hE_; clear hE_
    clear hc2 ho2
    go_wp2_with fail
    refine (l1Below_any B 10 _ (Up.cur (by ((repeat (first | (with_reducible exact hu2) | (with_reducible refine Up.alloc ?_ hB _) | (with_reducible refine Up.set ?_ ?_ hB _) | (with_reducible refine Up.drew ?_))); all_goals (first | omega | (simp; done) | (simp; omega))))) (by omega) (by omega)).mono ?_
    rintro r w3 ⟨z, rfl, hz0, hz1, hc3, ho3⟩
    have hu3 : Up B w w3 := Up.step (by ((repeat (first | (with_reducible exact hu2) | (with_reducible refine Up.alloc ?_ hB _) | (with_reducible refine Up.set ?_ ?_ hB _) | (with_reducible refine Up.drew ?_))); all_goals (first | omega | (simp; done) | (simp; omega)))) hc3 ho3
    have hz3 := ho3.size
    try simp only [World.size_alloc, World.size_setCell, World.size_drew, size_setRow] at hz3
    have hR_ : w3.heap[w.heap.size]? = some (.cells #[.int .i64 0, .int .i64 0, .int .u64 0, .int .i64 0, .string ⟨#[]⟩, .int .i64 0, .int .i64 0] 78 (0, 0)) := (ho3.block (b := w.heap.size) (by first | omega | (simp; done) | (simp; omega)) (by omega)).trans (by (apply hset_eq; (repeat (first | (with_reducible exact HR.out) | (with_reducible apply hset_row) | (with_reducible apply hset_set) | (with_reducible exact heap_alloc_new _ _) | (with_reducible exact heap_snd _ _ _) | (with_reducible apply hset_alloc) | (with_reducible apply hset_drew) | (with_reducible apply hset_other; case hk => first | omega | (simp; omega)) | (with_reducible apply hset_row_other; case hk => first | omega | (simp; omega)))); all_goals rfl))
    try clear HR kR fR hBR
    have kR := box_cells hR_; have fR := box_frozen hR_; have hBR := box_lt hR_; have HR := Lib.hid hR_; clear hR_
    have hE_ : w3.heap[w1.heap.size]? = some (.cells #[.int .i64 10, .int .i64 0, .int .u64 0, .int .i64 0, .string ⟨#[]⟩, .int .i64 0, .int .i64 y] 78 (0, 0)) := (ho3.block (b := w1.heap.size) (by first | omega | (simp; done) | (simp; omega)) (by omega)).trans (by (apply hset_eq; (repeat (first | (with_reducible exact HE.out) | (with_reducible apply hset_row) | (with_reducible apply hset_set) | (with_reducible exact heap_alloc_new _ _) | (with_reducible exact heap_snd _ _ _) | (with_reducible apply hset_alloc) | (with_reducible apply hset_drew) | (with_reducible apply hset_other; case hk => first | omega | (simp; omega)) | (with_reducible apply hset_row_other; case hk => first | omega | (simp; omega)))); all_goals rfl))
    try clear HE kE fE hBE
    have kE := box_cells hE_; have fE := box_frozen hE_; have hBE := box_lt hE_; have HE := Lib.hid hE_; clear hE_
    clear hc3 ho3
    go_wp2
    exact fin_ev Try.results143 ⟨10, 0, 0, 0, ⟨#[]⟩, 1 + z, y⟩ rfl rfl (by (apply hset_eq; (repeat (first | (with_reducible exact HR.out) | (with_reducible apply hset_row) | (with_reducible apply hset_set) | (with_reducible exact heap_alloc_new _ _) | (with_reducible exact heap_snd _ _ _) | (with_reducible apply hset_alloc) | (with_reducible apply hset_drew) | (with_reducible apply hset_other; case hk => first | omega | (simp; omega)) | (with_reducible apply hset_row_other; case hk => first | omega | (simp; omega)))); all_goals rfl)) (show (⟨#[]⟩ : ByteArray).size ≤ 6 by decide) (by ((repeat (first | (with_reducible exact hu3) | (with_reducible refine Up.alloc ?_ hB _) | (with_reducible refine Up.set ?_ ?_ hB _) | (with_reducible refine Up.drew ?_))); all_goals (first | omega | (simp; done) | (simp; omega))))
end Go.Proofs.Ytaoejdbkbnonpaa

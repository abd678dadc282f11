/- Texts that FnSettle leans on, part 8. (Put together by wip/tools/bundle.py.) -/
import Derived.Deep.MidRow
import Derived.Deep.CutRange
import Derived.Test.YtabdjimjelfbfaaGreatSettle1
import Derived.Test.YtabdjimjelfbfaaGreatSettle2
import Derived.Test.YtabdjimjelfbfaaGreatSettle3
import Derived.Test.YtabdjimjelfbfaaGreatSettle7
namespace Go.Proofs.YtabdjimjelfbfaaGreat
open Go.ChangeShapes Go.WideShapes Go.ChangeAt Go.RowKit Go.BigFrame
theorem hsn {w : World} {b : Nat} {o : Option Obj} (h : w.heap[b]? = o := by (apply hset_eq; (repeat (first | (with_reducible apply hset_row) | (with_reducible apply hset_set) | (with_reducible exact heap_alloc_new _ _) | (with_reducible exact heap_snd _ _ _) | (with_reducible apply hset_alloc) | (with_reducible apply hset_drew) | (with_reducible apply hset_other; case hk => first | omega | (simp; omega)) | (with_reducible apply hset_row_other; case hk => first | omega | (simp; omega)))); all_goals rfl)) : w.heap[b]? = o := h
end Go.Proofs.YtabdjimjelfbfaaGreat
namespace Go.Proofs.YtabdjimjelfbfaaGreat
set_option linter.unusedSimpArgs false
set_option linter.unusedVariables false
open Go.ChangeShapes Go.WideShapes Go.ChangeAt Go.RowKit Go.BigFrame
theorem Up.set {B b o : Nat} {w0 w : World} (h : Up B w0 w) (hb : w0.heap.size ≤ b) (hB : B < w0.heap.size) (v : Value) : Up B w0 (w.setCell ⟨b, o, none⟩ v) := by
 have hsz := h.oth.size
 have hk : ∀ k, k < w0.heap.size → (w.setCell ⟨b, o, none⟩ v).heap[k]? = w.heap[k]? := fun k hk => Below.heap_setCell w ⟨b, o, none⟩ v k (by simp; omega)
 refine ⟨h.cur.same fun k hk' => hk k (by omega), ?_⟩
 have h' : w0.grownBy w (some B) := h.oth
 obtain ⟨a, b', c, d, e⟩ := h'
 exact ⟨a, b', c, by simpa [World.setCell] using d, fun k hk' hn => (hk k hk').trans (e k hk' hn)⟩
theorem Up.drew {B : Nat} {w0 w : World} (h : Up B w0 w) : Up B w0 w.drew := by
 obtain ⟨hc, ho⟩ := h
 have h' : w0.grownBy w (some B) := ho
 obtain ⟨a, b', c, d, e⟩ := h'
 exact ⟨hc, ⟨a, b', c, d, e⟩⟩
theorem heap_snd (w : World) (o p : Obj) : ((w.alloc o).alloc p).heap[w.heap.size + 1]? = some p := hset_new (by simp)
def DrawnS (B : Nat) (l : List ByteArray) (w : World) (r : Ending) (w' : World) : Prop := ∃ x : ByteArray, r = .returned (.string x) ∧ x ∈ l ∧ Cur w' B ∧ Oth B w w'
theorem l1Pick_any (B g cap : Nat) (l : List ByteArray) (t : TypeId) (w : World) (hc : Cur w B) (hg : g ≠ B) (h : w.heap[g]? = some (.cells (l.map Value.string).toArray t (0, 0))) (h0 : 0 < l.length) (h1 : l.length ≤ 256) :
  Calls Tryz.prog 118 #[.pointer (some ⟨B, 0, none⟩), .slice (some ⟨g, 0, none⟩) l.length cap] w (DrawnS B l w) := by
 obtain ⟨n, hn⟩ : ∃ n, n = l.length := ⟨_, rfl⟩
 rw [← hn] at h0 h1 ⊢
 have HN := Lib.hid hn; clear hn
 have HH := Lib.hid h; clear h
 go_enter Tryz.func118, Tryz.ntmps118
 go_wp2_with fail
 refine (l1Below_any B n w hc (by omega) (by omega)).mono ?_
 rintro r w1 ⟨x, rfl, hx0, hx1, hc1, ho1⟩
 obtain ⟨k, rfl⟩ := Int.eq_ofNat_of_zero_le hx0
 have hgl : g < w.heap.size := box_lt HH.out
 have hb := (ho1.block hgl hg).trans HH.out
 have hk : k < l.length := by have := HN.out; omega
 obtain ⟨x, hx⟩ : ∃ x, x = l[k] := ⟨_, rfl⟩
 have hcx : w1.cell? ⟨g, k, none⟩ = some (.string x) := by simp [World.cell?, hb, hk, hx]
 have HM := Lib.hid (show x ∈ l from hx ▸ List.getElem_mem hk)
 clear hb hx
 go_wp2
 go_ret
 exact ⟨x, rfl, HM.out, hc1, ho1⟩
def DrawnE (B : Nat) (w : World) (r : Ending) (w' : World) : Prop := ∃ e : Ev, r = .returned e.val ∧ e.text.size ≤ 6 ∧ Up B w w'
theorem results_cellE {fn : Func} {p : Tmp} {ty : TypeId} (h : fn.results = #[.cell p ty]) {tmps : Array Value} {a : Addr} (hp : tmps.getD p undef = .pointer (some a)) {P : Program} {w : World} {v : Value} (hv : (loadVar ty a).run P w = .ok v w) : (results fn tmps).run P w = .ok v w := by
 have hp' : tmps[p]?.getD undef = .pointer (some a) := by simpa using hp
 simp only [results, h]
 simp [Sem.run_bind, Result.andThen, hp', asAddr, hv]
theorem range_of_boxE {w : World} {b : Nat} {cs : List Value} {t : TypeId} (h : w.heap[b]? = some (.cells cs.toArray t (0, 0))) : w.rangeAt b 0 cs := by
 intro j u hj
 simp [World.cell?, h, hj]
theorem size_EventX : (Tryz.prog.info? 38).map (·.size) = some 7 := by kernel_rfl
theorem fin_ev {fn : Func} {p : Tmp} (hres : fn.results = #[.cell p 38]) {B R : Nat} {w W : World} {a : Act} (e : Ev) (hp : a.tmps.getD p undef = .pointer (some ⟨R, 0, none⟩)) (hd : a.defers = []) (hF : W.heap[R]? = some (.cells e.cs.toArray 38 (0, 0))) (ht : e.text.size ≤ 6) (hu : Up B w W) : bodyPost Tryz.prog fn (DrawnE B w) .ret a W :=
 bodyPost_ret (v := e.val) (results_cellE hres hp (run_loadVar_mid W R 0 38 e.cs _ (range_of_boxE hF) Tryz.underlying38 rfl size_EventX)) hd ⟨e, rfl, ht, hu⟩
set_option maxRecDepth 100000 in
set_option maxHeartbeats 4000000 in
theorem l10Right_any (B : Nat) (w : World) (hc : Cur w B) : Calls Tryz.prog 117 #[.pointer (some ⟨B, 0, none⟩)] w (DrawnE B w) := by
 have hB := hc.lt
 have hu0 := Up.refl hc
 go_enter Tryz.func117, Tryz.ntmps117
 go_wp2_with fail
 refine (l1Below_any B 10 _ (Up.cur (upx hu0)) (by omega) (by omega)).mono ?_
 rintro r w1 ⟨x, rfl, hx0, hx1, hc1, ho1⟩
 have hu1 : Up B w w1 := Up.step (upx hu0) hc1 ho1
 have hz1 := ho1.size
 try simp only [World.size_alloc, World.size_setCell, World.size_drew, size_setRow] at hz1
 have hR_ : w1.heap[w.heap.size]? = some (.cells #[.int .i64 0, .int .i64 0, .int .u64 0, .int .i64 0, .string ⟨#[]⟩, .int .i64 0, .int .i64 0] 38 (0, 0)) := (ho1.block (b := w.heap.size) (by first | omega | (simp; done) | (simp; omega)) (by omega)).trans (by first | exact hsx HR.out | exact hsn)
 try clear HR kR fR hBR
 have kR := box_cells hR_; have fR := box_frozen hR_; have hBR := box_lt hR_; have HR := Lib.hid hR_; clear hR_
 clear hc1 ho1
 rcases (show x = 0 ∨ x = 1 ∨ x = 2 ∨ x = 3 ∨ x = 4 ∨ x = 5 ∨ x = 6 ∨ x = 7 ∨ x = 8 ∨ x = 9 by omega) with rfl | rfl | rfl | rfl | rfl | rfl | rfl | rfl | rfl | rfl
 ·skip
  go_wp2_with fail
  refine (l1Below_any B 40 _ (Up.cur (upx hu1)) (by omega) (by omega)).mono ?_
  rintro r w2 ⟨y, rfl, hy0, hy1, hc2, ho2⟩
  have hu2 : Up B w w2 := Up.step (upx hu1) hc2 ho2
  have hz2 := ho2.size
  try simp only [World.size_alloc, World.size_setCell, World.size_drew, size_setRow] at hz2
  have hR_ : w2.heap[w.heap.size]? = some (.cells #[.int .i64 0, .int .i64 0, .int .u64 0, .int .i64 0, .string ⟨#[]⟩, .int .i64 0, .int .i64 0] 38 (0, 0)) := (ho2.block (b := w.heap.size) (by first | omega | (simp; done) | (simp; omega)) (by omega)).trans (by first | exact hsx HR.out | exact hsn)
  try clear HR kR fR hBR
  have kR := box_cells hR_; have fR := box_frozen hR_; have hBR := box_lt hR_; have HR := Lib.hid hR_; clear hR_
  have hE_ : w2.heap[w1.heap.size]? = some (.cells #[.int .i64 1, .int .i64 0, .int .u64 0, .int .i64 0, .string ⟨#[]⟩, .int .i64 0, .int .i64 0] 38 (0, 0)) := (ho2.block (b := w1.heap.size) (by first | omega | (simp; done) | (simp; omega)) (by omega)).trans (by first | exact hsx HE.out | exact hsn)
  try clear HE kE fE hBE
  have kE := box_cells hE_; have fE := box_frozen hE_; have hBE := box_lt hE_; have HE := Lib.hid hE_; clear hE_
  clear hc2 ho2
  go_wp2
  exact fin_ev Tryz.results117 ⟨1, 0, 0, y, ⟨#[]⟩, 0, 0⟩ rfl rfl (by first | exact hsx HR.out | exact hsn) (show (⟨#[]⟩ : ByteArray).size ≤ 6 by decide) (upx hu2)
 ·skip
  go_wp2_with fail
  refine (l1Below_any B 12 _ (Up.cur (upx hu1)) (by omega) (by omega)).mono ?_
  rintro r w2 ⟨y, rfl, hy0, hy1, hc2, ho2⟩
  have hu2 : Up B w w2 := Up.step (upx hu1) hc2 ho2
  have hz2 := ho2.size
  try simp only [World.size_alloc, World.size_setCell, World.size_drew, size_setRow] at hz2
  have hR_ : w2.heap[w.heap.size]? = some (.cells #[.int .i64 0, .int .i64 0, .int .u64 0, .int .i64 0, .string ⟨#[]⟩, .int .i64 0, .int .i64 0] 38 (0, 0)) := (ho2.block (b := w.heap.size) (by first | omega | (simp; done) | (simp; omega)) (by omega)).trans (by first | exact hsx HR.out | exact hsn)
  try clear HR kR fR hBR
  have kR := box_cells hR_; have fR := box_frozen hR_; have hBR := box_lt hR_; have HR := Lib.hid hR_; clear hR_
  have hE_ : w2.heap[w1.heap.size]? = some (.cells #[.int .i64 2, .int .i64 0, .int .u64 0, .int .i64 0, .string ⟨#[]⟩, .int .i64 0, .int .i64 0] 38 (0, 0)) := (ho2.block (b := w1.heap.size) (by first | omega | (simp; done) | (simp; omega)) (by omega)).trans (by first | exact hsx HE.out | exact hsn)
  try clear HE kE fE hBE
  have kE := box_cells hE_; have fE := box_frozen hE_; have hBE := box_lt hE_; have HE := Lib.hid hE_; clear hE_
  clear hc2 ho2
  go_wp2_with fail
  refine (l1Wide_any B _ (Up.cur (upx hu2))).mono ?_
  rintro r w3 ⟨z, rfl, _, hc3, ho3⟩
  have hu3 : Up B w w3 := Up.step (upx hu2) hc3 ho3
  have hz3 := ho3.size
  try simp only [World.size_alloc, World.size_setCell, World.size_drew, size_setRow] at hz3
  have hR_ : w3.heap[w.heap.size]? = some (.cells #[.int .i64 0, .int .i64 0, .int .u64 0, .int .i64 0, .string ⟨#[]⟩, .int .i64 0, .int .i64 0] 38 (0, 0)) := (ho3.block (b := w.heap.size) (by first | omega | (simp; done) | (simp; omega)) (by omega)).trans (by first | exact hsx HR.out | exact hsn)
  try clear HR kR fR hBR
  have kR := box_cells hR_; have fR := box_frozen hR_; have hBR := box_lt hR_; have HR := Lib.hid hR_; clear hR_
  have hE_ : w3.heap[w1.heap.size]? = some (.cells #[.int .i64 2, .int .i64 (1 + y), .int .u64 0, .int .i64 0, .string ⟨#[]⟩, .int .i64 0, .int .i64 0] 38 (0, 0)) := (ho3.block (b := w1.heap.size) (by first | omega | (simp; done) | (simp; omega)) (by omega)).trans (by first | exact hsx HE.out | exact hsn)
  try clear HE kE fE hBE
  have kE := box_cells hE_; have fE := box_frozen hE_; have hBE := box_lt hE_; have HE := Lib.hid hE_; clear hE_
  clear hc3 ho3
  go_wp2
  exact fin_ev Tryz.results117 ⟨2, 1 + y, z, 0, ⟨#[]⟩, 0, 0⟩ rfl rfl (by first | exact hsx HR.out | exact hsn) (show (⟨#[]⟩ : ByteArray).size ≤ 6 by decide) (upx hu3)
 ·skip
  go_wp2_with fail
  refine (l1Below_any B 12 _ (Up.cur (upx hu1)) (by omega) (by omega)).mono ?_
  rintro r w2 ⟨y, rfl, hy0, hy1, hc2, ho2⟩
  have hu2 : Up B w w2 := Up.step (upx hu1) hc2 ho2
  have hz2 := ho2.size
  try simp only [World.size_alloc, World.size_setCell, World.size_drew, size_setRow] at hz2
  have hR_ : w2.heap[w.heap.size]? = some (.cells #[.int .i64 0, .int .i64 0, .int .u64 0, .int .i64 0, .string ⟨#[]⟩, .int .i64 0, .int .i64 0] 38 (0, 0)) := (ho2.block (b := w.heap.size) (by first | omega | (simp; done) | (simp; omega)) (by omega)).trans (by first | exact hsx HR.out | exact hsn)
  try clear HR kR fR hBR
  have kR := box_cells hR_; have fR := box_frozen hR_; have hBR := box_lt hR_; have HR := Lib.hid hR_; clear hR_
  have hE_ : w2.heap[w1.heap.size]? = some (.cells #[.int .i64 3, .int .i64 0, .int .u64 0, .int .i64 0, .string ⟨#[]⟩, .int .i64 0, .int .i64 0] 38 (0, 0)) := (ho2.block (b := w1.heap.size) (by first | omega | (simp; done) | (simp; omega)) (by omega)).trans (by first | exact hsx HE.out | exact hsn)
  try clear HE kE fE hBE
  have kE := box_cells hE_; have fE := box_frozen hE_; have hBE := box_lt hE_; have HE := Lib.hid hE_; clear hE_
  clear hc2 ho2
  go_wp2_with fail
  refine (l1Below_any B 12 _ (Up.cur (upx hu2)) (by omega) (by omega)).mono ?_
  rintro r w3 ⟨z, rfl, hz0, hz1, hc3, ho3⟩
  have hu3 : Up B w w3 := Up.step (upx hu2) hc3 ho3
  have hz3 := ho3.size
  try simp only [World.size_alloc, World.size_setCell, World.size_drew, size_setRow] at hz3
  have hR_ : w3.heap[w.heap.size]? = some (.cells #[.int .i64 0, .int .i64 0, .int .u64 0, .int .i64 0, .string ⟨#[]⟩, .int .i64 0, .int .i64 0] 38 (0, 0)) := (ho3.block (b := w.heap.size) (by first | omega | (simp; done) | (simp; omega)) (by omega)).trans (by first | exact hsx HR.out | exact hsn)
  try clear HR kR fR hBR
  have kR := box_cells hR_; have fR := box_frozen hR_; have hBR := box_lt hR_; have HR := Lib.hid hR_; clear hR_
  have hE_ : w3.heap[w1.heap.size]? = some (.cells #[.int .i64 3, .int .i64 (1 + y), .int .u64 0, .int .i64 0, .string ⟨#[]⟩, .int .i64 0, .int .i64 0] 38 (0, 0)) := (ho3.block (b := w1.heap.size) (by first | omega | (simp; done) | (simp; omega)) (by omega)).trans (by first | exact hsx HE.out | exact hsn)
  try clear HE kE fE hBE
  have kE := box_cells hE_; have fE := box_frozen hE_; have hBE := box_lt hE_; have HE := Lib.hid hE_; clear hE_
  clear hc3 ho3
  go_wp2
  exact fin_ev Tryz.results117 ⟨3, 1 + y, 0, z, ⟨#[]⟩, 0, 0⟩ rfl rfl (by first | exact hsx HR.out | exact hsn) (show (⟨#[]⟩ : ByteArray).size ≤ 6 by decide) (upx hu3)
 ·skip
  go_wp2_with fail
  refine (l1Pick_any B (w1.heap.size + 1) 4 [⟨#[97]⟩, ⟨#[98, 99]⟩, ⟨#[195, 169]⟩, ⟨#[255]⟩] _ _ (Up.cur (upx hu1)) (by omega) (by first | exact hsx HR.out | exact hsn) (by decide) (by decide)).mono ?_
  rintro r w2 ⟨y, rfl, hy, hc2, ho2⟩
  have hu2 : Up B w w2 := Up.step (upx hu1) hc2 ho2
  have hz2 := ho2.size
  try simp only [World.size_alloc, World.size_setCell, World.size_drew, size_setRow] at hz2
  have hR_ : w2.heap[w.heap.size]? = some (.cells #[.int .i64 0, .int .i64 0, .int .u64 0, .int .i64 0, .string ⟨#[]⟩, .int .i64 0, .int .i64 0] 38 (0, 0)) := (ho2.block (b := w.heap.size) (by first | omega | (simp; done) | (simp; omega)) (by omega)).trans (by first | exact hsx HR.out | exact hsn)
  try clear HR kR fR hBR
  have kR := box_cells hR_; have fR := box_frozen hR_; have hBR := box_lt hR_; have HR := Lib.hid hR_; clear hR_
  have hE_ : w2.heap[w1.heap.size]? = some (.cells #[.int .i64 4, .int .i64 0, .int .u64 0, .int .i64 0, .string ⟨#[]⟩, .int .i64 0, .int .i64 0] 38 (0, 0)) := (ho2.block (b := w1.heap.size) (by first | omega | (simp; done) | (simp; omega)) (by omega)).trans (by first | exact hsx HE.out | exact hsn)
  try clear HE kE fE hBE
  have kE := box_cells hE_; have fE := box_frozen hE_; have hBE := box_lt hE_; have HE := Lib.hid hE_; clear hE_
  clear hc2 ho2
  have hys : y.size ≤ 6 := by simp only [List.mem_cons, List.not_mem_nil, or_false] at hy; rcases hy with rfl | rfl | rfl | rfl <;> decide
  go_wp2
  exact fin_ev Tryz.results117 ⟨4, 0, 0, 0, y, 0, 0⟩ rfl rfl (by first | exact hsx HR.out | exact hsn) (hys) (upx hu2)
 ·skip
  go_wp2
  exact fin_ev Tryz.results117 ⟨5, 0, 0, 0, ⟨#[]⟩, 0, 0⟩ rfl rfl (by first | exact hsx HR.out | exact hsn) (show (⟨#[]⟩ : ByteArray).size ≤ 6 by decide) (upx hu1)
 ·skip
  go_wp2_with fail
  refine (l1Below_any B 12 _ (Up.cur (upx hu1)) (by omega) (by omega)).mono ?_
  rintro r w2 ⟨y, rfl, hy0, hy1, hc2, ho2⟩
  have hu2 : Up B w w2 := Up.step (upx hu1) hc2 ho2
  have hz2 := ho2.size
  try simp only [World.size_alloc, World.size_setCell, World.size_drew, size_setRow] at hz2
  have hR_ : w2.heap[w.heap.size]? = some (.cells #[.int .i64 0, .int .i64 0, .int .u64 0, .int .i64 0, .string ⟨#[]⟩, .int .i64 0, .int .i64 0] 38 (0, 0)) := (ho2.block (b := w.heap.size) (by first | omega | (simp; done) | (simp; omega)) (by omega)).trans (by first | exact hsx HR.out | exact hsn)
  try clear HR kR fR hBR
  have kR := box_cells hR_; have fR := box_frozen hR_; have hBR := box_lt hR_; have HR := Lib.hid hR_; clear hR_
  have hE_ : w2.heap[w1.heap.size]? = some (.cells #[.int .i64 6, .int .i64 0, .int .u64 0, .int .i64 0, .string ⟨#[]⟩, .int .i64 0, .int .i64 0] 38 (0, 0)) := (ho2.block (b := w1.heap.size) (by first | omega | (simp; done) | (simp; omega)) (by omega)).trans (by first | exact hsx HE.out | exact hsn)
  try clear HE kE fE hBE
  have kE := box_cells hE_; have fE := box_frozen hE_; have hBE := box_lt hE_; have HE := Lib.hid hE_; clear hE_
  clear hc2 ho2
  go_wp2_with fail
  refine (l1Below_any B 12 _ (Up.cur (upx hu2)) (by omega) (by omega)).mono ?_
  rintro r w3 ⟨z, rfl, hz0, hz1, hc3, ho3⟩
  have hu3 : Up B w w3 := Up.step (upx hu2) hc3 ho3
  have hz3 := ho3.size
  try simp only [World.size_alloc, World.size_setCell, World.size_drew, size_setRow] at hz3
  have hR_ : w3.heap[w.heap.size]? = some (.cells #[.int .i64 0, .int .i64 0, .int .u64 0, .int .i64 0, .string ⟨#[]⟩, .int .i64 0, .int .i64 0] 38 (0, 0)) := (ho3.block (b := w.heap.size) (by first | omega | (simp; done) | (simp; omega)) (by omega)).trans (by first | exact hsx HR.out | exact hsn)
  try clear HR kR fR hBR
  have kR := box_cells hR_; have fR := box_frozen hR_; have hBR := box_lt hR_; have HR := Lib.hid hR_; clear hR_
  have hE_ : w3.heap[w1.heap.size]? = some (.cells #[.int .i64 6, .int .i64 (1 + y), .int .u64 0, .int .i64 0, .string ⟨#[]⟩, .int .i64 0, .int .i64 0] 38 (0, 0)) := (ho3.block (b := w1.heap.size) (by first | omega | (simp; done) | (simp; omega)) (by omega)).trans (by first | exact hsx HE.out | exact hsn)
  try clear HE kE fE hBE
  have kE := box_cells hE_; have fE := box_frozen hE_; have hBE := box_lt hE_; have HE := Lib.hid hE_; clear hE_
  clear hc3 ho3
  go_wp2
  exact fin_ev Tryz.results117 ⟨6, 1 + y, 0, z, ⟨#[]⟩, 0, 0⟩ rfl rfl (by first | exact hsx HR.out | exact hsn) (show (⟨#[]⟩ : ByteArray).size ≤ 6 by decide) (upx hu3)
 ·skip
  go_wp2
  exact fin_ev Tryz.results117 ⟨7, 0, 0, 0, ⟨#[]⟩, 0, 0⟩ rfl rfl (by first | exact hsx HR.out | exact hsn) (show (⟨#[]⟩ : ByteArray).size ≤ 6 by decide) (upx hu1)
 ·skip
  go_wp2
  exact fin_ev Tryz.results117 ⟨8, 0, 0, 0, ⟨#[]⟩, 0, 0⟩ rfl rfl (by first | exact hsx HR.out | exact hsn) (show (⟨#[]⟩ : ByteArray).size ≤ 6 by decide) (upx hu1)
 ·skip
  go_wp2_with fail
  refine (l1Below_any B 99 _ (Up.cur (upx hu1)) (by omega) (by omega)).mono ?_
  rintro r w2 ⟨y, rfl, hy0, hy1, hc2, ho2⟩
  have hu2 : Up B w w2 := Up.step (upx hu1) hc2 ho2
  have hz2 := ho2.size
  try simp only [World.size_alloc, World.size_setCell, World.size_drew, size_setRow] at hz2
  have hR_ : w2.heap[w.heap.size]? = some (.cells #[.int .i64 0, .int .i64 0, .int .u64 0, .int .i64 0, .string ⟨#[]⟩, .int .i64 0, .int .i64 0] 38 (0, 0)) := (ho2.block (b := w.heap.size) (by first | omega | (simp; done) | (simp; omega)) (by omega)).trans (by first | exact hsx HR.out | exact hsn)
  try clear HR kR fR hBR
  have kR := box_cells hR_; have fR := box_frozen hR_; have hBR := box_lt hR_; have HR := Lib.hid hR_; clear hR_
  have hE_ : w2.heap[w1.heap.size]? = some (.cells #[.int .i64 9, .int .i64 0, .int .u64 0, .int .i64 0, .string ⟨#[]⟩, .int .i64 0, .int .i64 0] 38 (0, 0)) := (ho2.block (b := w1.heap.size) (by first | omega | (simp; done) | (simp; omega)) (by omega)).trans (by first | exact hsx HE.out | exact hsn)
  try clear HE kE fE hBE
  have kE := box_cells hE_; have fE := box_frozen hE_; have hBE := box_lt hE_; have HE := Lib.hid hE_; clear hE_
  clear hc2 ho2
  go_wp2
  exact fin_ev Tryz.results117 ⟨9, 0, 0, 0, ⟨#[]⟩, 0, y⟩ rfl rfl (by first | exact hsx HR.out | exact hsn) (show (⟨#[]⟩ : ByteArray).size ≤ 6 by decide) (upx hu2)
 ·skip
  go_wp2_with fail
  refine (l1Below_any B 99 _ (Up.cur (upx hu1)) (by omega) (by omega)).mono ?_
  rintro r w2 ⟨y, rfl, hy0, hy1, hc2, ho2⟩
  have hu2 : Up B w w2 := Up.step (upx hu1) hc2 ho2
  have hz2 := ho2.size
  try simp only [World.size_alloc, World.size_setCell, World.size_drew, size_setRow] at hz2
  have hR_ : w2.heap[w.heap.size]? = some (.cells #[.int .i64 0, .int .i64 0, .int .u64 0, .int .i64 0, .string ⟨#[]⟩, .int .i64 0, .int .i64 0] 38 (0, 0)) := (ho2.block (b := w.heap.size) (by first | omega | (simp; done) | (simp; omega)) (by omega)).trans (by first | exact hsx HR.out | exact hsn)
  try clear HR kR fR hBR
  have kR := box_cells hR_; have fR := box_frozen hR_; have hBR := box_lt hR_; have HR := Lib.hid hR_; clear hR_
  have hE_ : w2.heap[w1.heap.size]? = some (.cells #[.int .i64 10, .int .i64 0, .int .u64 0, .int .i64 0, .string ⟨#[]⟩, .int .i64 0, .int .i64 0] 38 (0, 0)) := (ho2.block (b := w1.heap.size) (by first | omega | (simp; done) | (simp; omega)) (by omega)).trans (by first | exact hsx HE.out | exact hsn)
  try clear HE kE fE hBE
  have kE := box_cells hE_; have fE := box_frozen hE_; have hBE := box_lt hE_; have HE := Lib.hid hE_; clear hE_
  clear hc2 ho2
  go_wp2_with fail
  refine (l1Below_any B 10 _ (Up.cur (upx hu2)) (by omega) (by omega)).mono ?_
  rintro r w3 ⟨z, rfl, hz0, hz1, hc3, ho3⟩
  have hu3 : Up B w w3 := Up.step (upx hu2) hc3 ho3
  have hz3 := ho3.size
  try simp only [World.size_alloc, World.size_setCell, World.size_drew, size_setRow] at hz3
  have hR_ : w3.heap[w.heap.size]? = some (.cells #[.int .i64 0, .int .i64 0, .int .u64 0, .int .i64 0, .string ⟨#[]⟩, .int .i64 0, .int .i64 0] 38 (0, 0)) := (ho3.block (b := w.heap.size) (by first | omega | (simp; done) | (simp; omega)) (by omega)).trans (by first | exact hsx HR.out | exact hsn)
  try clear HR kR fR hBR
  have kR := box_cells hR_; have fR := box_frozen hR_; have hBR := box_lt hR_; have HR := Lib.hid hR_; clear hR_
  have hE_ : w3.heap[w1.heap.size]? = some (.cells #[.int .i64 10, .int .i64 0, .int .u64 0, .int .i64 0, .string ⟨#[]⟩, .int .i64 0, .int .i64 y] 38 (0, 0)) := (ho3.block (b := w1.heap.size) (by first | omega | (simp; done) | (simp; omega)) (by omega)).trans (by first | exact hsx HE.out | exact hsn)
  try clear HE kE fE hBE
  have kE := box_cells hE_; have fE := box_frozen hE_; have hBE := box_lt hE_; have HE := Lib.hid hE_; clear hE_
  clear hc3 ho3
  go_wp2
  exact fin_ev Tryz.results117 ⟨10, 0, 0, 0, ⟨#[]⟩, 1 + z, y⟩ rfl rfl (by first | exact hsx HR.out | exact hsn) (show (⟨#[]⟩ : ByteArray).size ≤ 6 by decide) (upx hu3)
end Go.Proofs.YtabdjimjelfbfaaGreat
namespace Go.Proofs.YtabdjimjelfbfaaGreat
set_option linter.unusedSimpArgs false
set_option linter.unusedVariables false
open Go.ChangeShapes Go.WideShapes Go.ChangeAt Go.RowKit Go.BigFrame
def DrawnSt (B m : Nat) (w : World) (r : Ending) (w' : World) : Prop := ∃ s : ByteArray, r = .returned (.string s) ∧ s.size ≤ m ∧ Cur w' B ∧ Oth B w w'
theorem varLen_any (n : Nat) (w : World) (hn : n < 2 ^ 64) : Calls Tryz.prog 154 #[.int .u64 n] w fun r w' => ∃ k : Nat, r = .returned (.int .i64 k) ∧ k ≤ 10 ∧ Below w.heap.size w w' := by
 go_enter Tryz.func154, Tryz.ntmps154
 go_wp2_with fail
 refine (specPutVar_any n w hn).mono ?_
 rintro r w1 ⟨⟨k, hk, rfl⟩, hb1⟩
 have hk9 := len_le hn hk.below
 obtain ⟨s, hs⟩ : ∃ s : ByteArray, s = ⟨(putB n k).toArray⟩ := ⟨_, rfl⟩
 have hsz : s.size ≤ 10 := by rw [hs]; simp [ByteArray.size, putB, hiB_len]; omega
 rw [← hs]
 clear hs hk
 go_wp2
 go_ret
 exact ⟨s.size, rfl, hsz, hb1⟩
set_option maxHeartbeats 2000000 in
theorem l2Var_any (B n : Nat) (w : World) (hc : Cur w B) (hn : n < 2 ^ 64) : Calls Tryz.prog 134 #[.pointer (some ⟨B, 0, none⟩), .int .u64 n] w (DrawnSt B 10 w) := by
 have hB := hc.lt
 have put : ∀ wq : World, Cur wq B → Oth B w wq → Calls Tryz.prog 155 #[.int .u64 n] wq (DrawnSt B 10 w) := fun wq hcq hoq => (specPutVar_any n wq hn).mono fun r w' ⟨⟨k, hk, hr⟩, hb⟩ => by
  have hk9 := len_le hn hk.below
  exact ⟨_, hr, by simp [ByteArray.size, putB, hiB_len]; omega, hcq.below hb, hoq.trans (Oth.of_below hb)⟩
 go_enter Tryz.func134, Tryz.ntmps134
 go_wp2_with fail
 refine (l1Once_any B 4 w hc (by omega) (by omega)).mono ?_
 rintro r w1 ⟨b, rfl, hc1, ho1⟩
 cases b
 ·go_wp2_with fail
  refine (put w1 hc1 ho1).mono ?_
  rintro r w2 ⟨s, rfl, hs, hc2, ho2⟩
  go_wp2
  go_ret
  exact ⟨s, rfl, hs, hc2, ho2⟩
 ·go_wp2_with fail
  refine (varLen_any n w1 hn).mono ?_
  rintro r w2 ⟨k, rfl, hk, hb2⟩
  have hc2 := hc1.below hb2
  have ho2 := ho1.trans (Oth.of_below hb2)
  go_wp2_with fail
  refine (l1Below_any B 3 w2 hc2 (by omega) (by omega)).mono ?_
  rintro r w3 ⟨x, rfl, hx0, hx1, hc3, ho3⟩
  have ho3' := ho2.trans ho3
  go_wp2_with fail
  refine (padVar_any n _ w3 hn).mono ?_
  rintro r w4 ⟨s, rfl, hs, hb4⟩
  have hc4 := hc3.below hb4
  have ho4 := ho3'.trans (Oth.of_below hb4)
  cases he : s.toList.isEmpty
  ·go_wp2
   go_ret
   exact ⟨s, rfl, hs, hc4, ho4⟩
  ·go_wp2_with fail
   refine (put w4 hc4 ho4).mono ?_
   rintro r w5 ⟨s, rfl, hs, hc5, ho5⟩
   go_wp2
   go_ret
   exact ⟨s, rfl, hs, hc5, ho5⟩
theorem DrawnI.up {B : Nat} {w w' : World} {r : Ending} (h : DrawnI B w r w') : ∃ x : Int, r = .returned (.int .i64 x) ∧ Cur w' B ∧ Oth B w w' := h
theorem wu64_nat {u : Int} (h : WU64 u) : ∃ n : Nat, u = n ∧ n < 2 ^ 64 := by
 obtain ⟨h0, h1⟩ := WU64.lo h
 obtain ⟨n, rfl⟩ := Int.eq_ofNat_of_zero_le h0
 exact ⟨n, rfl, by omega⟩
theorem Up.below {B n : Nat} {w0 w w' : World} (h : Up B w0 w) (hB : B < w0.heap.size) (hb : Below n w w') (hn : w0.heap.size ≤ n) : Up B w0 w' :=
 ⟨h.cur.same fun k hk => hb.block k (by omega), ⟨hb.os.trans h.oth.os, hb.tape.trans h.oth.tape, hb.output.trans h.oth.output, Nat.le_trans h.oth.size hb.size, fun k hk hn' => (hb.block k (by omega)).trans (h.oth.block hk (by simpa using hn'))⟩⟩
def DrawnIn (B : Nat) (l : List Int) (w : World) (r : Ending) (w' : World) : Prop := ∃ x : Int, r = .returned (.int .i64 x) ∧ x ∈ l ∧ Cur w' B ∧ Oth B w w'
theorem l1PickInt_in (B g cap : Nat) (l : List Int) (t : TypeId) (w : World) (hc : Cur w B) (hg : g ≠ B) (h : w.heap[g]? = some (.cells (l.map (Value.int .i64)).toArray t (0, 0))) (h0 : 0 < l.length) (h1 : l.length ≤ 256) :
  Calls Tryz.prog 77 #[.pointer (some ⟨B, 0, none⟩), .slice (some ⟨g, 0, none⟩) l.length cap] w (DrawnIn B l w) := by
 obtain ⟨n, hn⟩ : ∃ n, n = l.length := ⟨_, rfl⟩
 rw [← hn] at h0 h1 ⊢
 have HN := Lib.hid hn; clear hn
 have HH := Lib.hid h; clear h
 go_enter Tryz.func77, Tryz.ntmps77
 go_wp2_with fail
 refine (l1Below_any B n w hc (by omega) (by omega)).mono ?_
 rintro r w1 ⟨x, rfl, hx0, hx1, hc1, ho1⟩
 obtain ⟨k, rfl⟩ := Int.eq_ofNat_of_zero_le hx0
 have hgl : g < w.heap.size := box_lt HH.out
 have hb := (ho1.block hgl hg).trans HH.out
 have hkl : k < l.length := by have := HN.out; omega
 obtain ⟨x, hx, hxm⟩ : ∃ x : Int, w1.cell? ⟨g, k, none⟩ = some (.int .i64 x) ∧ x ∈ l := ⟨l[k], by simp [World.cell?, hb, hkl], List.getElem_mem hkl⟩
 clear hb
 have HXm := Lib.hid hxm; clear hxm
 go_wp2
 go_ret
 exact ⟨x, rfl, HXm.out, hc1, ho1⟩
theorem w64_lim {u : Int} (h0 : -9223372036854775808 ≤ u) (h1 : u ≤ 9223372036854775807) : W64 u := by
 unfold W64; simp [Lit.wf, IntKind.min, IntKind.max, IntKind.signed, IntKind.bits]; omega
theorem lit_string (W : World) (g n c : Nat) (xs : List Int) {src dst e : TypeId} (t : TypeId) (h : W.heap[g]? = some (.cells (xs.map (Value.int .u8)).toArray t (0, 0))) (hx : ∀ x ∈ xs, 0 ≤ x ∧ x < 256) (hn : xs.length = n) (hs : Tryz.prog.underlying src = some (.slice e)) (he : Tryz.prog.underlying e = some (.int .u8)) (hd : Tryz.prog.underlying dst = some .string) :
  (convert src dst (.slice (some ⟨g, 0, none⟩) n c)).run Tryz.prog W = .ok (.string ⟨(xs.map fun x => UInt8.ofNat x.toNat).toArray⟩) W := by
 subst hn
 have e0 : (xs.map fun x => UInt8.ofNat x.toNat).length = xs.length := by simp
 rw [← e0]
 refine run_convert_bytes_back W src dst e ⟨g, 0, none⟩ c _ hs he hd fun j hj => ?_
 have hj' : j < xs.length := by simpa using hj
 obtain ⟨h0, h1⟩ := hx xs[j] (List.getElem_mem hj')
 have e1 : ((⟨g, 0, none⟩ : Addr).add j) = ⟨g, j, none⟩ := by
  by_cases h : j = 0
  ·subst h; simp [Addr.add]
  ·simp [Addr.add, h]
 have e2 : ((UInt8.ofNat xs[j].toNat).toNat : Int) = xs[j] := by
  have : xs[j].toNat < 256 := by omega
  have h2 : (UInt8.ofNat xs[j].toNat).toNat = xs[j].toNat % 256 := by simp [UInt8.toNat_ofNat']
  omega
 rw [e1]
 have e3 : ((xs.map fun x => UInt8.ofNat x.toNat)[j]).toNat = (UInt8.ofNat xs[j].toNat).toNat := by simp
 rw [e3, e2]
 simp [World.cell?, h, hj']
def StrB (m : Nat) (w : World) (r : Ending) (w' : World) : Prop := ∃ s : ByteArray, r = .returned (.string s) ∧ s.size ≤ m ∧ Below w.heap.size w w'
set_option maxRecDepth 100000 in
set_option maxHeartbeats 2000000 in
theorem runeText_any (n : Int) (w : World) (h0 : 0 ≤ n) (hn : n ≤ 1114111) : Calls Tryz.prog 162 #[.int .i64 n] w (StrB 4 w) := by
 have h1 : inB n 0 1114111 = true := by simp [inB]; omega
 cases h2 : inB n 55296 57343
 ·by_cases h128 : n < 128
  ·have hcv := lit_string (w.alloc (.cells #[.int .u8 (n)] 5)) w.heap.size 1 1 [n] (src := 22) (dst := 9) (e := 5) 5 (hset_new rfl) (by intro x hx; simp only [List.mem_cons, List.not_mem_nil, or_false] at hx; omega) rfl Tryz.underlying22 Tryz.underlying5 Tryz.underlying9
   go_enter Tryz.func162, Tryz.ntmps162
   go_wp2_with (first | (go_at_call 51; refine (l1In_any _ _ _ _).mono ?_; rintro r w1 ⟨rfl, rfl⟩; first | rw [h1] | rw [h2]))
   go_ret
   exact ⟨_, rfl, by simp [ByteArray.size], (Below.refl _ _).alloc (Nat.le_refl _) _⟩
  ·by_cases h2048 : n < 2048
   ·have q0 : IntKind.u8.wrap (192 + n / 64) = 192 + n / 64 := by rw [IntKind.wrap_u8]; omega
    have q1 : IntKind.u8.wrap (128 + n % 64) = 128 + n % 64 := by rw [IntKind.wrap_u8]; omega
    have hcv := lit_string (w.alloc (.cells #[.int .u8 (192 + n / 64), .int .u8 (128 + n % 64)] 5)) w.heap.size 2 2 [192 + n / 64, 128 + n % 64] (src := 22) (dst := 9) (e := 5) 5 (hset_new rfl) (by intro x hx; simp only [List.mem_cons, List.not_mem_nil, or_false] at hx; omega) rfl Tryz.underlying22 Tryz.underlying5 Tryz.underlying9
    go_enter Tryz.func162, Tryz.ntmps162
    go_wp2_with (first | (go_at_call 51; refine (l1In_any _ _ _ _).mono ?_; rintro r w1 ⟨rfl, rfl⟩; first | rw [h1] | rw [h2]))
    go_ret
    exact ⟨_, rfl, by simp [ByteArray.size], (Below.refl _ _).alloc (Nat.le_refl _) _⟩
   ·by_cases h65536 : n < 65536
    ·have q0 : IntKind.u8.wrap (224 + n / 4096) = 224 + n / 4096 := by rw [IntKind.wrap_u8]; omega
     have q1 : IntKind.u8.wrap (128 + n / 64 % 64) = 128 + n / 64 % 64 := by rw [IntKind.wrap_u8]; omega
     have q2 : IntKind.u8.wrap (128 + n % 64) = 128 + n % 64 := by rw [IntKind.wrap_u8]; omega
     have hcv := lit_string (w.alloc (.cells #[.int .u8 (224 + n / 4096), .int .u8 (128 + n / 64 % 64), .int .u8 (128 + n % 64)] 5)) w.heap.size 3 3 [224 + n / 4096, 128 + n / 64 % 64, 128 + n % 64] (src := 22) (dst := 9) (e := 5) 5 (hset_new rfl) (by intro x hx; simp only [List.mem_cons, List.not_mem_nil, or_false] at hx; omega) rfl Tryz.underlying22 Tryz.underlying5 Tryz.underlying9
     go_enter Tryz.func162, Tryz.ntmps162
     go_wp2_with (first | (go_at_call 51; refine (l1In_any _ _ _ _).mono ?_; rintro r w1 ⟨rfl, rfl⟩; first | rw [h1] | rw [h2]))
     go_ret
     exact ⟨_, rfl, by simp [ByteArray.size], (Below.refl _ _).alloc (Nat.le_refl _) _⟩
    ·have q0 : IntKind.u8.wrap (240 + n / 262144) = 240 + n / 262144 := by rw [IntKind.wrap_u8]; omega
     have q1 : IntKind.u8.wrap (128 + n / 4096 % 64) = 128 + n / 4096 % 64 := by rw [IntKind.wrap_u8]; omega
     have q2 : IntKind.u8.wrap (128 + n / 64 % 64) = 128 + n / 64 % 64 := by rw [IntKind.wrap_u8]; omega
     have q3 : IntKind.u8.wrap (128 + n % 64) = 128 + n % 64 := by rw [IntKind.wrap_u8]; omega
     have hcv := lit_string (w.alloc (.cells #[.int .u8 (240 + n / 262144), .int .u8 (128 + n / 4096 % 64), .int .u8 (128 + n / 64 % 64), .int .u8 (128 + n % 64)] 5)) w.heap.size 4 4 [240 + n / 262144, 128 + n / 4096 % 64, 128 + n / 64 % 64, 128 + n % 64] (src := 22) (dst := 9) (e := 5) 5 (hset_new rfl) (by intro x hx; simp only [List.mem_cons, List.not_mem_nil, or_false] at hx; omega) rfl Tryz.underlying22 Tryz.underlying5 Tryz.underlying9
     go_enter Tryz.func162, Tryz.ntmps162
     go_wp2_with (first | (go_at_call 51; refine (l1In_any _ _ _ _).mono ?_; rintro r w1 ⟨rfl, rfl⟩; first | rw [h1] | rw [h2]))
     go_ret
     exact ⟨_, rfl, by simp [ByteArray.size], (Below.refl _ _).alloc (Nat.le_refl _) _⟩
 ·go_enter Tryz.func162, Tryz.ntmps162
  go_wp2_with (first | (go_at_call 51; refine (l1In_any _ _ _ _).mono ?_; rintro r w1 ⟨rfl, rfl⟩; first | rw [h1] | rw [h2]))
  go_ret
  exact ⟨_, rfl, Nat.zero_le _, Below.refl _ _⟩
set_option maxRecDepth 100000 in
set_option maxHeartbeats 2000000 in
theorem l5Rune_any (B : Nat) (w : World) (hc : Cur w B) : Calls Tryz.prog 163 #[.pointer (some ⟨B, 0, none⟩)] w (Drawn B 0 1114111 w) := by
 have hB := hc.lt
 go_enter Tryz.func163, Tryz.ntmps163
 go_wp2_with fail
 refine (l1Below_big B 1114112 w hc (by omega) (by omega)).mono ?_
 rintro r w1 ⟨x, rfl, hx0, hx1, hc1, ho1⟩
 have hz1 := ho1.size
 have hu := (Up.step (Up.refl hc) hc1 ho1).alloc hB
 go_wp2_with fail
 refine (l1PickInt_in B w1.heap.size 13 [0, 65, 127, 128, 2047, 2048, 4095, 55295, 57344, 65535, 65536, 1114111, x] 3 _ (hu _).cur (by omega) (hset_new rfl) (by simp) (by simp)).mono ?_
 rintro r w2 ⟨y, rfl, hy, hc2, ho2⟩
 have hy2 : 0 ≤ y ∧ y ≤ 1114111 := by
  simp only [List.mem_cons, List.not_mem_nil, or_false] at hy
  omega
 clear hy
 go_wp2
 go_ret
 exact ⟨y, rfl, hy2.1, hy2.2, hc2, (hu _).oth.trans ho2⟩
set_option maxRecDepth 100000 in
set_option maxHeartbeats 2000000 in
theorem l5Text_any (B n : Nat) (w : World) (hc : Cur w B) (hn : n ≤ 100) : Calls Tryz.prog 140 #[.pointer (some ⟨B, 0, none⟩), .int .i64 n] w (DrawnSt B (4 * n) w) := by
 have hB := hc.lt
 go_enter Tryz.func140, Tryz.ntmps140
 go_wp2
 go_loopw [5, 6] (fun t i wr => ∃ (k : Nat) (s : ByteArray), k ≤ n ∧ i = .int .i64 k ∧ t = .string s ∧ s.size ≤ 4 * k ∧ Up B w wr) (fun _ i _ => n - (intOf i).toNat)
 case atStart => exact ⟨0, _, Nat.zero_le _, rfl, rfl, Nat.zero_le _, Up.refl hc⟩
 case round =>
  obtain ⟨k, s, hk, rfl, rfl, hs, hu⟩ := hrel
  by_cases hlt : k < n
  ·go_wp2_with fail
   refine (l5Rune_any B wr hu.cur).mono ?_
   rintro r w1 ⟨x, rfl, hx0, hx1, hc1, ho1⟩
   have hu1 := hu.step hc1 ho1
   go_wp2_with fail
   refine (runeText_any x w1 hx0 hx1).mono ?_
   rintro r w2 ⟨t, rfl, ht, hb2⟩
   have hu2 := hu1.below hB hb2 hu1.oth.size
   have hcat : ¬ 9223372036854775807 < s.size + t.size := by omega
   have hst : (s ++ t).size ≤ 4 * (k + 1) := by rw [ByteArray.size_append]; omega
   go_wp2
   go_roundw
   case rel => exact ⟨k + 1, _, by omega, by go_num, rfl, hst, hu2⟩
   case measure => simp [intOf]; omega
  ·have hkn : k = n := by omega
   subst hkn
   go_wp2
   go_ret
   exact ⟨s, rfl, hs, hu.cur, hu.oth⟩
theorem Cells.oth2 {l : List (Addr × Value)} {w w' : World} {B : Nat} (h : Cells l w) (ho : Oth B w w') (hB : ∀ q ∈ l, q.1.block ≠ B) : Cells l w' := fun q hq => by
 have hlt := World.block_lt_of_cell? w _ (h q hq)
 exact (World.cell?_of_block (ho.block hlt (hB q hq))).trans (h q hq)
theorem xor_u8 (x y : Int) : ∃ z : Nat, bits .xor .u8 x y = z ∧ z < 256 := by
 refine ⟨((BitVec.ofInt 8 x ^^^ BitVec.ofInt 8 y).toNat : Nat) % 256, ?_, by omega⟩
 show IntKind.u8.wrap ((BitVec.ofInt 8 x ^^^ BitVec.ofInt 8 y).toNat : Nat) = _
 rw [IntKind.wrap_u8]; omega
theorem l1Below_gen (B : Nat) (n : Int) (w : World) (hc : Cur w B) (h0 : 0 < n) (h1 : n ≤ 4294967296) : Calls Tryz.prog 33 #[.pointer (some ⟨B, 0, none⟩), .int .i64 n] w (Drawn B 0 (n - 1) w) := by
 by_cases h : n ≤ 256
 ·exact l1Below_any B n w hc h0 h
 ·exact l1Below_big B n w hc (by omega) h1
set_option maxRecDepth 100000 in
set_option maxHeartbeats 2000000 in
theorem l1Spoil_any (B : Nat) (s : ByteArray) (w : World) (hc : Cur w B) (hs : s.size ≤ 1000000) : Calls Tryz.prog 141 #[.pointer (some ⟨B, 0, none⟩), .string s] w (DrawnSt B (s.size + 2) w) := by
 have hB := hc.lt
 by_cases h0 : s.size = 0
 ·have he : s = ⟨#[]⟩ := by
   obtain ⟨d⟩ := s
   have : d.size = 0 := h0
   rw [Array.eq_empty_of_size_eq_zero this]
  subst he
  go_enter Tryz.func141, Tryz.ntmps141
  go_wp2_with fail
  refine (l1Bytes_any B 2 w hc (by omega)).mono ?_
  rintro r w1 ⟨v, l, rfl, hl, hv, hr, hu⟩
  have hstr := own_string0 hr hv Tryz.underlying22 Tryz.underlying5 Tryz.underlying9
  go_wp2
  go_ret
  exact ⟨⟨l.toArray⟩, rfl, by simp [ByteArray.size, hl], hu.cur, hu.oth⟩
 ·have hne : s.toList.isEmpty = false := by
   obtain ⟨⟨l⟩⟩ := s
   cases l with
   | nil => exact absurd rfl h0
   | cons a l => simp [ByteArray.toList_eq]
  have hne2 : ¬ s.toList = [] := by intro e; rw [e] at hne; cases hne
  obtain ⟨n, hn⟩ : ∃ n, s.size = n := ⟨_, rfl⟩
  have hs0 : 0 < s.size := by omega
  have hconv := fun W => run_bytes_of_string (P := Tryz.prog) W 9 22 5 s Tryz.underlying9 Tryz.underlying22 Tryz.underlying5
  have hT := OwnT.same (w' := (w.alloc (.cells (bytesRow s (grownCap w s.size 0 5)) 5 ((bytesRow s (grownCap w s.size 0 5)).size, (bytesRow s (grownCap w s.size 0 5)).size + 1))).drew) (ownT_made w 5 s (by unfold maxLen; omega)) (fun g hg => rfl)
  have HT := Lib.hid hT; clear hT hn
  go_enter Tryz.func141, Tryz.ntmps141
  go_wp2_with fail
  clear hconv
  have hup : Up B w (w.alloc (.cells (bytesRow s (grownCap w s.size 0 5)) 5 ((bytesRow s (grownCap w s.size 0 5)).size, (bytesRow s (grownCap w s.size 0 5)).size + 1))).drew := (Up.refl hc).below hB (((Below.refl _ _).alloc (Nat.le_refl _) _).drew) (Nat.le_refl _)
  refine (l1Below_gen B s.size _ hup.cur (by omega) (by omega)).mono ?_
  rintro r w1 ⟨y, rfl, hy0, hy1, hc1, ho1⟩
  obtain ⟨k, rfl⟩ := Int.eq_ofNat_of_zero_le hy0
  have hk : k < s.size := by omega
  have HT1 := Lib.hid (HT.out.same (fun g hg => by have e : w.heap.size = g := Option.some.inj hg; subst e; exact ho1.block (by simp) (by omega)))
  have hu1 := hup.step hc1 ho1
  clear HT hup hc1 ho1
  obtain ⟨cp, hcp⟩ : ∃ cp, grownCap w s.size 0 5 = cp := ⟨_, rfl⟩
  simp only [hcp] at HT1 ⊢
  clear hcp
  obtain ⟨xs, hxs⟩ : ∃ xs, bv s.data.toList = xs := ⟨_, rfl⟩
  have hAB := allBy_bv s.data.toList
  rw [hxs] at hAB HT1
  clear hxs
  obtain ⟨u, hu⟩ : ∃ u, xs[k]? = some u := ⟨_, List.getElem?_eq_getElem (by have := HT1.out.1; omega)⟩
  obtain ⟨x, hx, rfl⟩ := hAB u (List.mem_of_getElem? hu)
  have hcl := HT1.out.cell (g := w.heap.size) rfl k _ hu
  have hfz := HT1.out.free (j := k) hk
  have hkn : (k : Int) < (s.size : Int) := by omega
  clear hu
  go_upto_region 5 with fail
  refine wp_region_till (Cells [(⟨w.heap.size, k, none⟩, .int .u8 (x : Int))]) (fun i => decide (12 ≤ i)) (by kernel_rfl) ?_
  have hS : Cells [(⟨w.heap.size, k, none⟩, .int .u8 (x : Int))] w1.drew := cells_mk hcl (cells_no _)
  have hb1 : Below w1.heap.size w1 w1.drew := (Below.refl _ _).drew
  refine tk (i := 0) hS ?_
  refine tk (i := 1) hS ?_
  refine tk (i := 2) hS ?_
  refine tk (i := 3) hS ?_
  refine tk (i := 4) hS ?_
  refine tk (i := 5) hS ?_
  refine tk (i := 6) hS ?_
  refine wpTill_op (i := 7) (by kernel_rfl) rfl (fun K hK => ?_)
  go_simp
  refine (l1Below_any B 255 _ (hu1.cur.below hb1) (by omega) (by omega)).mono ?_
  rintro r w2 ⟨z, rfl, hz0, hz1, hc2, ho2⟩
  have hu2 : Up B w w2 := (hu1.below hB hb1 hu1.oth.size).step hc2 ho2
  have HT2 := Lib.hid (HT1.out.same (w' := w2) (fun g hg => by have e : w.heap.size = g := Option.some.inj hg; subst e; exact ho2.block (World.block_lt_of_cell? _ _ hcl) (by omega)))
  have hS2 := hS.oth2 ho2 (by intro q hq; simp only [List.mem_cons, List.not_mem_nil, or_false] at hq; subst hq; simp only; omega)
  clear hS HT1 hc2 ho2 hcl hfz hb1 hu1
  have hfz := HT2.out.free (j := k) hk
  have hcl : w2.cell? ⟨w.heap.size, k, none⟩ = some (.int .u8 x) := hS2 (⟨w.heap.size, k, none⟩, _) (by simp)
  have hS := hS2; clear hS2
  refine hK.out _ _ (fun _ => hS) ?_
  clear hK K
  try simp only [List.getElem_toArray, List.getElem_cons_succ, List.getElem_cons_zero, Act.put, List.setIfInBounds_toArray, List.set_cons_zero, List.set_cons_succ]
  have hw8 : IntKind.i64.wrap (1 + z) = 1 + z := by rw [IntKind.wrap_i64]; omega
  have hw9 : IntKind.u8.wrap (1 + z) = 1 + z := by rw [IntKind.wrap_u8]; omega
  obtain ⟨q, hq, hq256⟩ := xor_u8 x (1 + z)
  refine wpTill_op (i := 8) (by kernel_rfl) rfl (fun K hK => ?_)
  go_simp
  refine hK.out _ _ (fun _ => hS) ?_
  clear hK K
  try simp only [List.getElem_toArray, List.getElem_cons_succ, List.getElem_cons_zero, Act.put, List.setIfInBounds_toArray, List.set_cons_zero, List.set_cons_succ]
  refine wpTill_op (i := 9) (by kernel_rfl) rfl (fun K hK => ?_)
  go_simp
  refine hK.out _ _ (fun _ => hS) ?_
  clear hK K
  try simp only [List.getElem_toArray, List.getElem_cons_succ, List.getElem_cons_zero, Act.put, List.setIfInBounds_toArray, List.set_cons_zero, List.set_cons_succ]
  refine wpTill_op (i := 10) (by kernel_rfl) rfl (fun K hK => ?_)
  go_simp
  refine hK.out _ _ (fun _ => hS) ?_
  clear hK K
  try simp only [List.getElem_toArray, List.getElem_cons_succ, List.getElem_cons_zero, Act.put, List.setIfInBounds_toArray, List.set_cons_zero, List.set_cons_succ]
  clear hw8 hw9 hq
  refine wpTill_op (i := 11) (by kernel_rfl) rfl (fun K hK => ?_)
  go_simp
  refine hK.out _ _ (fun _ => hS) ?_
  clear hK K
  try simp only [List.getElem_toArray, List.getElem_cons_succ, List.getElem_cons_zero, Act.put, List.setIfInBounds_toArray, List.set_cons_zero, List.set_cons_succ]
  refine wpTill_op (i := 12) (by kernel_rfl) rfl (fun K hK => ?_)
  go_simp
  refine hK.out _ _ (fun e => by cases e) ?_
  clear hK K
  refine wpTill_done (by kernel_rfl) ?_ _
  have hT3 := HT2.out.put hk (.int .u8 (q : Int))
  obtain ⟨l, hl⟩ := AllBy.bytes (hAB.set k hq256)
  rw [hl] at hT3
  have hll : l.length = s.size := by have := hT3.1; simpa [bv] using this
  have hstr := own_stringT hT3 Tryz.underlying22 Tryz.underlying5 Tryz.underlying9
  have huF : Up B w (w2.setCell ⟨w.heap.size, k, none⟩ (.int .u8 (q : Int))) := hu2.below hB ((Below.refl w.heap.size _).setCell (by simp) _) (Nat.le_refl _)
  clear hS hcl hfz hT3 hl
  go_wp2_with fail
  go_ret
  exact ⟨⟨l.toArray⟩, rfl, by show l.toArray.size ≤ _; rw [List.size_toArray]; omega, huF.cur, huF.oth⟩
set_option maxRecDepth 100000 in
set_option maxHeartbeats 2000000 in
theorem l5Bent_any (B : Nat) (w : World) (hc : Cur w B) : Calls Tryz.prog 116 #[.pointer (some ⟨B, 0, none⟩)] w (DrawnSt B 16 w) := by
 have hB := hc.lt
 go_enter Tryz.func116, Tryz.ntmps116
 go_wp2_with fail
 refine (l1Below_any B 4 w hc (by omega) (by omega)).mono ?_
 rintro r w1 ⟨x, rfl, hx0, hx1, hc1, ho1⟩
 obtain ⟨n, rfl⟩ := Int.eq_ofNat_of_zero_le hx0
 go_wp2_with fail
 refine (l5Text_any B n w1 hc1 (by omega)).mono ?_
 rintro r w2 ⟨s, rfl, hs, hc2, ho2⟩
 have hs12 : s.size ≤ 12 := by omega
 go_wp2_with fail
 refine (l1Below_any B 4 w2 hc2 (by omega) (by omega)).mono ?_
 rintro r w3 ⟨y, rfl, hy0, hy1, hc3, ho3⟩
 have ho : Oth B w w3 := (ho1.trans ho2).trans ho3
 have hu : Up B w w3 := ⟨hc3, ho⟩
 clear ho1 ho2 ho3 hc1 hc2
 have hz3 := ho.size
 rcases (show y = 0 ∨ y = 1 ∨ y = 2 ∨ y = 3 by omega) with rfl | rfl | rfl | rfl
 ·go_wp2_with fail
  refine (l1Spoil_any B s w3 hc3 (by omega)).mono ?_
  rintro r w4 ⟨t, rfl, ht, hc4, ho4⟩
  go_wp2
  go_ret
  exact ⟨t, rfl, by omega, hc4, ho.trans ho4⟩
 ·go_wp2_with fail
  refine (l1Below_gen B (s.size + 1) w3 hc3 (by omega) (by omega)).mono ?_
  rintro r w4 ⟨q, rfl, hq0, hq1, hc4, ho4⟩
  obtain ⟨m, rfl⟩ := Int.eq_ofNat_of_zero_le hq0
  have hm : m ≤ s.size := by omega
  have hmi : (m : Int) ≤ (s.size : Int) := by omega
  go_wp2
  go_ret
  exact ⟨_, rfl, by rw [ByteArray.size_extract]; omega, hc4, ho.trans ho4⟩
 ·go_wp2_with fail
  have hua := hu.alloc hB (.cells (([⟨#[128]⟩, ⟨#[192, 128]⟩, ⟨#[224, 159, 191]⟩, ⟨#[237, 160, 128]⟩, ⟨#[240, 143, 191, 191]⟩, ⟨#[244, 144, 128, 128]⟩, ⟨#[245]⟩, ⟨#[255]⟩, ⟨#[226, 130]⟩, ⟨#[193, 191]⟩] : List ByteArray).map Value.string).toArray 9)
  refine (l1Pick_any B w3.heap.size 10 [⟨#[128]⟩, ⟨#[192, 128]⟩, ⟨#[224, 159, 191]⟩, ⟨#[237, 160, 128]⟩, ⟨#[240, 143, 191, 191]⟩, ⟨#[244, 144, 128, 128]⟩, ⟨#[245]⟩, ⟨#[255]⟩, ⟨#[226, 130]⟩, ⟨#[193, 191]⟩] 9 _ hua.cur (by omega) (hset_new rfl) (by simp) (by simp)).mono ?_
  rintro r w4 ⟨t, rfl, ht, hc4, ho4⟩
  have ht4 : t.size ≤ 4 := by
   simp only [List.mem_cons, List.not_mem_nil, or_false] at ht
   rcases ht with rfl | rfl | rfl | rfl | rfl | rfl | rfl | rfl | rfl | rfl <;> decide
  have hcat : ¬ 9223372036854775807 < s.size + t.size := by omega
  clear ht
  go_wp2
  go_ret
  exact ⟨s ++ t, rfl, by rw [ByteArray.size_append]; omega, hc4, hua.oth.trans ho4⟩
 ·go_wp2
  go_ret
  exact ⟨s, rfl, by omega, hc3, ho⟩
structure Ut.ok (u : Ut) : Prop where
 want : W64 u.want
 low : W64 u.low
 high : W64 u.high
theorem w64_255 {u : Int} (h0 : -1000 ≤ u) (h1 : u ≤ 1000) : W64 u := w64_lim (by omega) (by omega)
theorem ut_small (a b c : Nat) (h1 : a ≤ 255) (h2 : b ≤ 255) (h3 : c ≤ 255) : Ut.ok ⟨a, b, c⟩ := ⟨w64_255 (by simp only; omega) (by simp only; omega), w64_255 (by simp only; omega) (by simp only; omega), w64_255 (by simp only; omega) (by simp only; omega)⟩
def SomeUt (w : World) (r : Ending) (w' : World) : Prop := ∃ (u : Ut) (b : Bool), r = .returned (.tuple #[u.val, .bool b]) ∧ u.ok ∧ Below w.heap.size w w'
theorem sameU_ok {u v : Ut} (h : sameU u v = true) : u = v := by
 obtain ⟨a, b, c⟩ := u; obtain ⟨d, e, f⟩ := v
 simp [sameU] at h
 simp [h]
theorem utfOk_ok {u : Ut} (h : utfOk u = true) : u.ok ∧ 0 ≤ u.want ∧ u.want ≤ 3 := by
 simp only [utfOk, Bool.or_eq_true] at h
 rcases h with h | h | h | h | h | h | h | h <;> (have e := sameU_ok h; subst e; exact ⟨⟨w64_255 (by decide) (by decide), w64_255 (by decide) (by decide), w64_255 (by decide) (by decide)⟩, by decide, by decide⟩)
set_option maxRecDepth 100000 in
set_option maxHeartbeats 2000000 in
theorem l5First_any (b : Int) (w : World) : Calls Tryz.prog 157 #[.int .i64 b] w (SomeUt w) := by
 by_cases hq : 0 ≤ b ∧ b ≤ 127
 ·have i1 : inB b 0 127 = true := by simp only [inB, decide_eq_true_eq, decide_eq_false_iff_not]; omega
  have i2 : inB b 194 223 = false := by simp only [inB, decide_eq_true_eq, decide_eq_false_iff_not]; omega
  have i3 : inB b 224 239 = false := by simp only [inB, decide_eq_true_eq, decide_eq_false_iff_not]; omega
  have i4 : inB b 240 244 = false := by simp only [inB, decide_eq_true_eq, decide_eq_false_iff_not]; omega
  have e224 : (b == 224) = false := by simp only [beq_iff_eq, beq_eq_false_iff_ne, ne_eq]; omega
  have e237 : (b == 237) = false := by simp only [beq_iff_eq, beq_eq_false_iff_ne, ne_eq]; omega
  have e240 : (b == 240) = false := by simp only [beq_iff_eq, beq_eq_false_iff_ne, ne_eq]; omega
  have e244 : (b == 244) = false := by simp only [beq_iff_eq, beq_eq_false_iff_ne, ne_eq]; omega
  clear hq
  go_enter Tryz.func157, Tryz.ntmps157
  go_wp2_with (first | (go_at_call 51; refine (l1In_any _ _ _ _).mono ?_; rintro r w1 ⟨rfl, rfl⟩; first | rw [i1] | rw [i2] | rw [i3] | rw [i4]))
  exact bodyPost_ret (by simp [results, Tryz.results157, go_sem]; try rfl) rfl ⟨⟨0, 0, 0⟩, _, rfl, ut_small 0 0 0 (by omega) (by omega) (by omega), by exact bl⟩
 have hn0 := hq; clear hq
 by_cases hq : 194 ≤ b ∧ b ≤ 223
 ·have i1 : inB b 0 127 = false := by simp only [inB, decide_eq_true_eq, decide_eq_false_iff_not]; omega
  have i2 : inB b 194 223 = true := by simp only [inB, decide_eq_true_eq, decide_eq_false_iff_not]; omega
  have i3 : inB b 224 239 = false := by simp only [inB, decide_eq_true_eq, decide_eq_false_iff_not]; omega
  have i4 : inB b 240 244 = false := by simp only [inB, decide_eq_true_eq, decide_eq_false_iff_not]; omega
  have e224 : (b == 224) = false := by simp only [beq_iff_eq, beq_eq_false_iff_ne, ne_eq]; omega
  have e237 : (b == 237) = false := by simp only [beq_iff_eq, beq_eq_false_iff_ne, ne_eq]; omega
  have e240 : (b == 240) = false := by simp only [beq_iff_eq, beq_eq_false_iff_ne, ne_eq]; omega
  have e244 : (b == 244) = false := by simp only [beq_iff_eq, beq_eq_false_iff_ne, ne_eq]; omega
  clear hq
  go_enter Tryz.func157, Tryz.ntmps157
  go_wp2_with (first | (go_at_call 51; refine (l1In_any _ _ _ _).mono ?_; rintro r w1 ⟨rfl, rfl⟩; first | rw [i1] | rw [i2] | rw [i3] | rw [i4]))
  exact bodyPost_ret (by simp [results, Tryz.results157, go_sem]; try rfl) rfl ⟨⟨1, 128, 191⟩, _, rfl, ut_small 1 128 191 (by omega) (by omega) (by omega), by exact bl⟩
 have hn1 := hq; clear hq
 by_cases hq : b = 224
 ·have i1 : inB b 0 127 = false := by simp only [inB, decide_eq_true_eq, decide_eq_false_iff_not]; omega
  have i2 : inB b 194 223 = false := by simp only [inB, decide_eq_true_eq, decide_eq_false_iff_not]; omega
  have i3 : inB b 224 239 = true := by simp only [inB, decide_eq_true_eq, decide_eq_false_iff_not]; omega
  have i4 : inB b 240 244 = false := by simp only [inB, decide_eq_true_eq, decide_eq_false_iff_not]; omega
  have e224 : (b == 224) = true := by simp only [beq_iff_eq, beq_eq_false_iff_ne, ne_eq]; omega
  have e237 : (b == 237) = false := by simp only [beq_iff_eq, beq_eq_false_iff_ne, ne_eq]; omega
  have e240 : (b == 240) = false := by simp only [beq_iff_eq, beq_eq_false_iff_ne, ne_eq]; omega
  have e244 : (b == 244) = false := by simp only [beq_iff_eq, beq_eq_false_iff_ne, ne_eq]; omega
  clear hq
  go_enter Tryz.func157, Tryz.ntmps157
  go_wp2_with (first | (go_at_call 51; refine (l1In_any _ _ _ _).mono ?_; rintro r w1 ⟨rfl, rfl⟩; first | rw [i1] | rw [i2] | rw [i3] | rw [i4]))
  exact bodyPost_ret (by simp [results, Tryz.results157, go_sem]; try rfl) rfl ⟨⟨2, 160, 191⟩, _, rfl, ut_small 2 160 191 (by omega) (by omega) (by omega), by exact bl⟩
 have hn2 := hq; clear hq
 by_cases hq : b = 237
 ·have i1 : inB b 0 127 = false := by simp only [inB, decide_eq_true_eq, decide_eq_false_iff_not]; omega
  have i2 : inB b 194 223 = false := by simp only [inB, decide_eq_true_eq, decide_eq_false_iff_not]; omega
  have i3 : inB b 224 239 = true := by simp only [inB, decide_eq_true_eq, decide_eq_false_iff_not]; omega
  have i4 : inB b 240 244 = false := by simp only [inB, decide_eq_true_eq, decide_eq_false_iff_not]; omega
  have e224 : (b == 224) = false := by simp only [beq_iff_eq, beq_eq_false_iff_ne, ne_eq]; omega
  have e237 : (b == 237) = true := by simp only [beq_iff_eq, beq_eq_false_iff_ne, ne_eq]; omega
  have e240 : (b == 240) = false := by simp only [beq_iff_eq, beq_eq_false_iff_ne, ne_eq]; omega
  have e244 : (b == 244) = false := by simp only [beq_iff_eq, beq_eq_false_iff_ne, ne_eq]; omega
  clear hq
  go_enter Tryz.func157, Tryz.ntmps157
  go_wp2_with (first | (go_at_call 51; refine (l1In_any _ _ _ _).mono ?_; rintro r w1 ⟨rfl, rfl⟩; first | rw [i1] | rw [i2] | rw [i3] | rw [i4]))
  exact bodyPost_ret (by simp [results, Tryz.results157, go_sem]; try rfl) rfl ⟨⟨2, 128, 159⟩, _, rfl, ut_small 2 128 159 (by omega) (by omega) (by omega), by exact bl⟩
 have hn3 := hq; clear hq
 by_cases hq : 224 < b ∧ b ≤ 239 ∧ b ≠ 237
 ·have i1 : inB b 0 127 = false := by simp only [inB, decide_eq_true_eq, decide_eq_false_iff_not]; omega
  have i2 : inB b 194 223 = false := by simp only [inB, decide_eq_true_eq, decide_eq_false_iff_not]; omega
  have i3 : inB b 224 239 = true := by simp only [inB, decide_eq_true_eq, decide_eq_false_iff_not]; omega
  have i4 : inB b 240 244 = false := by simp only [inB, decide_eq_true_eq, decide_eq_false_iff_not]; omega
  have e224 : (b == 224) = false := by simp only [beq_iff_eq, beq_eq_false_iff_ne, ne_eq]; omega
  have e237 : (b == 237) = false := by simp only [beq_iff_eq, beq_eq_false_iff_ne, ne_eq]; omega
  have e240 : (b == 240) = false := by simp only [beq_iff_eq, beq_eq_false_iff_ne, ne_eq]; omega
  have e244 : (b == 244) = false := by simp only [beq_iff_eq, beq_eq_false_iff_ne, ne_eq]; omega
  clear hq
  go_enter Tryz.func157, Tryz.ntmps157
  go_wp2_with (first | (go_at_call 51; refine (l1In_any _ _ _ _).mono ?_; rintro r w1 ⟨rfl, rfl⟩; first | rw [i1] | rw [i2] | rw [i3] | rw [i4]))
  exact bodyPost_ret (by simp [results, Tryz.results157, go_sem]; try rfl) rfl ⟨⟨2, 128, 191⟩, _, rfl, ut_small 2 128 191 (by omega) (by omega) (by omega), by exact bl⟩
 have hn4 := hq; clear hq
 by_cases hq : b = 240
 ·have i1 : inB b 0 127 = false := by simp only [inB, decide_eq_true_eq, decide_eq_false_iff_not]; omega
  have i2 : inB b 194 223 = false := by simp only [inB, decide_eq_true_eq, decide_eq_false_iff_not]; omega
  have i3 : inB b 224 239 = false := by simp only [inB, decide_eq_true_eq, decide_eq_false_iff_not]; omega
  have i4 : inB b 240 244 = true := by simp only [inB, decide_eq_true_eq, decide_eq_false_iff_not]; omega
  have e224 : (b == 224) = false := by simp only [beq_iff_eq, beq_eq_false_iff_ne, ne_eq]; omega
  have e237 : (b == 237) = false := by simp only [beq_iff_eq, beq_eq_false_iff_ne, ne_eq]; omega
  have e240 : (b == 240) = true := by simp only [beq_iff_eq, beq_eq_false_iff_ne, ne_eq]; omega
  have e244 : (b == 244) = false := by simp only [beq_iff_eq, beq_eq_false_iff_ne, ne_eq]; omega
  clear hq
  go_enter Tryz.func157, Tryz.ntmps157
  go_wp2_with (first | (go_at_call 51; refine (l1In_any _ _ _ _).mono ?_; rintro r w1 ⟨rfl, rfl⟩; first | rw [i1] | rw [i2] | rw [i3] | rw [i4]))
  exact bodyPost_ret (by simp [results, Tryz.results157, go_sem]; try rfl) rfl ⟨⟨3, 144, 191⟩, _, rfl, ut_small 3 144 191 (by omega) (by omega) (by omega), by exact bl⟩
 have hn5 := hq; clear hq
 by_cases hq : b = 244
 ·have i1 : inB b 0 127 = false := by simp only [inB, decide_eq_true_eq, decide_eq_false_iff_not]; omega
  have i2 : inB b 194 223 = false := by simp only [inB, decide_eq_true_eq, decide_eq_false_iff_not]; omega
  have i3 : inB b 224 239 = false := by simp only [inB, decide_eq_true_eq, decide_eq_false_iff_not]; omega
  have i4 : inB b 240 244 = true := by simp only [inB, decide_eq_true_eq, decide_eq_false_iff_not]; omega
  have e224 : (b == 224) = false := by simp only [beq_iff_eq, beq_eq_false_iff_ne, ne_eq]; omega
  have e237 : (b == 237) = false := by simp only [beq_iff_eq, beq_eq_false_iff_ne, ne_eq]; omega
  have e240 : (b == 240) = false := by simp only [beq_iff_eq, beq_eq_false_iff_ne, ne_eq]; omega
  have e244 : (b == 244) = true := by simp only [beq_iff_eq, beq_eq_false_iff_ne, ne_eq]; omega
  clear hq
  go_enter Tryz.func157, Tryz.ntmps157
  go_wp2_with (first | (go_at_call 51; refine (l1In_any _ _ _ _).mono ?_; rintro r w1 ⟨rfl, rfl⟩; first | rw [i1] | rw [i2] | rw [i3] | rw [i4]))
  exact bodyPost_ret (by simp [results, Tryz.results157, go_sem]; try rfl) rfl ⟨⟨3, 128, 143⟩, _, rfl, ut_small 3 128 143 (by omega) (by omega) (by omega), by exact bl⟩
 have hn6 := hq; clear hq
 by_cases hq : 240 < b ∧ b < 244
 ·have i1 : inB b 0 127 = false := by simp only [inB, decide_eq_true_eq, decide_eq_false_iff_not]; omega
  have i2 : inB b 194 223 = false := by simp only [inB, decide_eq_true_eq, decide_eq_false_iff_not]; omega
  have i3 : inB b 224 239 = false := by simp only [inB, decide_eq_true_eq, decide_eq_false_iff_not]; omega
  have i4 : inB b 240 244 = true := by simp only [inB, decide_eq_true_eq, decide_eq_false_iff_not]; omega
  have e224 : (b == 224) = false := by simp only [beq_iff_eq, beq_eq_false_iff_ne, ne_eq]; omega
  have e237 : (b == 237) = false := by simp only [beq_iff_eq, beq_eq_false_iff_ne, ne_eq]; omega
  have e240 : (b == 240) = false := by simp only [beq_iff_eq, beq_eq_false_iff_ne, ne_eq]; omega
  have e244 : (b == 244) = false := by simp only [beq_iff_eq, beq_eq_false_iff_ne, ne_eq]; omega
  clear hq
  go_enter Tryz.func157, Tryz.ntmps157
  go_wp2_with (first | (go_at_call 51; refine (l1In_any _ _ _ _).mono ?_; rintro r w1 ⟨rfl, rfl⟩; first | rw [i1] | rw [i2] | rw [i3] | rw [i4]))
  exact bodyPost_ret (by simp [results, Tryz.results157, go_sem]; try rfl) rfl ⟨⟨3, 128, 191⟩, _, rfl, ut_small 3 128 191 (by omega) (by omega) (by omega), by exact bl⟩
 have hn7 := hq; clear hq
 have i1 : inB b 0 127 = false := by simp only [inB, decide_eq_true_eq, decide_eq_false_iff_not]; omega
 have i2 : inB b 194 223 = false := by simp only [inB, decide_eq_true_eq, decide_eq_false_iff_not]; omega
 have i3 : inB b 224 239 = false := by simp only [inB, decide_eq_true_eq, decide_eq_false_iff_not]; omega
 have i4 : inB b 240 244 = false := by simp only [inB, decide_eq_true_eq, decide_eq_false_iff_not]; omega
 have e224 : (b == 224) = false := by simp only [beq_iff_eq, beq_eq_false_iff_ne, ne_eq]; omega
 have e237 : (b == 237) = false := by simp only [beq_iff_eq, beq_eq_false_iff_ne, ne_eq]; omega
 have e240 : (b == 240) = false := by simp only [beq_iff_eq, beq_eq_false_iff_ne, ne_eq]; omega
 have e244 : (b == 244) = false := by simp only [beq_iff_eq, beq_eq_false_iff_ne, ne_eq]; omega
 go_enter Tryz.func157, Tryz.ntmps157
 go_wp2_with (first | (go_at_call 51; refine (l1In_any _ _ _ _).mono ?_; rintro r w1 ⟨rfl, rfl⟩; first | rw [i1] | rw [i2] | rw [i3] | rw [i4]))
 exact bodyPost_ret (by simp [results, Tryz.results157, go_sem]; try rfl) rfl ⟨⟨0, 0, 0⟩, _, rfl, ut_small 0 0 0 (by omega) (by omega) (by omega), by exact bl⟩
set_option maxRecDepth 100000 in
set_option maxHeartbeats 2000000 in
theorem utfByte_any (u : Ut) (b : Int) (w : World) (hu : u.ok) : Calls Tryz.prog 136 #[u.val, .int .i64 b] w (SomeUt w) := by
 obtain ⟨uw, ul, uh⟩ := u
 cases hk : utfOk ⟨uw, ul, uh⟩
 ·go_enter Tryz.func136, Tryz.ntmps136
  go_wp2_with fail
  refine (specUtfOk_any ⟨uw, ul, uh⟩ _).mono ?_
  rintro r w1 ⟨rfl, hb1⟩
  rw [hk]
  obtain ⟨hc1, hf1⟩ := bcell hb1
  have hz1 := hb1.size
  simp only [World.size_alloc] at hz1
  go_wp2
  exact bodyPost_ret (by simp [results, Tryz.results136, go_sem, hc1]; try rfl) rfl ⟨⟨uw, ul, uh⟩, _, rfl, hu, by exact bl⟩
 ·obtain ⟨-, hw0, hw3⟩ := utfOk_ok hk
  simp only at hw0 hw3
  go_enter Tryz.func136, Tryz.ntmps136
  go_wp2_with fail
  refine (specUtfOk_any ⟨uw, ul, uh⟩ _).mono ?_
  rintro r w1 ⟨rfl, hb1⟩
  rw [hk]
  obtain ⟨hc1, hf1⟩ := bcell hb1
  have hz1 := hb1.size
  simp only [World.size_alloc] at hz1
  cases h0 : (uw == 0)
  ·cases h1 : inB b ul uh
   ·go_wp2_with (first | (go_at_call 51; refine (l1In_any _ _ _ _).mono ?_; rintro r w2 ⟨rfl, rfl⟩; rw [h1]))
    exact bodyPost_ret (by simp [results, Tryz.results136, go_sem, hc1]; try rfl) rfl ⟨⟨uw, ul, uh⟩, _, rfl, hu, by exact bl⟩
   ·cases h2 : (uw == 1)
    ·have hww : IntKind.i64.wrap (uw - 1) = uw - 1 := by rw [IntKind.wrap_i64]; omega
     go_wp2_with (first | (go_at_call 51; refine (l1In_any _ _ _ _).mono ?_; rintro r w2 ⟨rfl, rfl⟩; rw [h1]))
     exact bodyPost_ret (by simp [results, Tryz.results136, go_sem, hc1]; try rfl) rfl ⟨⟨uw - 1, 128, 191⟩, _, rfl, ⟨w64_255 (by simp only; omega) (by simp only; omega), w64_255 (u := 128) (by omega) (by omega), w64_255 (u := 191) (by omega) (by omega)⟩, by exact bl⟩
    ·go_wp2_with (first | (go_at_call 51; refine (l1In_any _ _ _ _).mono ?_; rintro r w2 ⟨rfl, rfl⟩; rw [h1]))
     exact bodyPost_ret (by simp [results, Tryz.results136, go_sem, hc1]; try rfl) rfl ⟨⟨0, 0, 0⟩, _, rfl, ut_small 0 0 0 (by omega) (by omega) (by omega), by exact bl⟩
  ·go_wp2_with fail
   refine (l5First_any b w1).mono ?_
   rintro r w2 ⟨⟨vw, vl, vh⟩, ok, rfl, hv, hb2⟩
   obtain ⟨hc2, hf2⟩ := bcell hb2
   have hz2 := hb2.size
   have hq1 : w.heap.size + 1 < w1.heap.size := by omega
   have hq0 : w.heap.size < w1.heap.size := by omega
   have hq2 : w.heap.size + 1 < w2.heap.size := by omega
   have hR2 : w2.heap[w.heap.size + 1]? = some (.cells #[.int .i64 0, .int .i64 0, .int .i64 0] 36 (0, 0)) := (hb2.block _ (by omega)).trans ((hb1.block (w.heap.size + 1) (by simp)).trans (hset_new (o := .cells #[.int .i64 0, .int .i64 0, .int .i64 0] 36) (by simp)))
   go_wp2
   refine bodyPost_ret (results_cell_tmp Tryz.results136 rfl rfl (run_loadVar_mid _ (w.heap.size + 1) 0 36 [.int .i64 vw, .int .i64 vl, .int .i64 vh] _ (range_of_box (t := 36) ?_) Tryz.underlying36 rfl (by kernel_rfl))) rfl ⟨⟨vw, vl, vh⟩, _, rfl, hv, by exact bl⟩
   apply hset_eq (hset_set (hset_set (hset_set hR2))); simp only [List.setIfInBounds_toArray, List.set_cons_zero, List.set_cons_succ]
def SomeUi (w : World) (r : Ending) (w' : World) : Prop := ∃ (u : Ut) (i : Int), r = .returned (.tuple #[u.val, .int .i64 i]) ∧ u.ok ∧ Below w.heap.size w w'
theorem cells_setRowU {l : List (Addr × Value)} {w : World} {F : Nat} (h : Cells l w) (hne : ∀ q ∈ l, F ≠ q.1.block) (cs : Array Value) : Cells l (w.setRow F cs) := fun q hq => by
 rw [World.cell?_of_block (a := q.1) (setRow_other w F q.1.block cs (fun e => hne q hq e.symm))]; exact h q hq
set_option maxRecDepth 100000 in
set_option maxHeartbeats 4000000 in
theorem utfText_any (u : Ut) (s : ByteArray) (w : World) (hu : u.ok) (hs : s.size ≤ 1000000) : Calls Tryz.prog 139 #[u.val, .string s] w (SomeUi w) := by
 obtain ⟨n, hn⟩ : ∃ n, s.size = n := ⟨_, rfl⟩
 have HN := Lib.hid hn; clear hn
 go_enter Tryz.func139, Tryz.ntmps139
 go_wp2_with fail
 go_loopw [6] (fun i wr => ∃ (k : Nat) (v : Ut), k ≤ s.size ∧ i = .int .i64 k ∧ v.ok ∧ wr.heap[w.heap.size]? = some (.cells #[.int .i64 v.want, .int .i64 v.low, .int .i64 v.high] 36 (0, 0)) ∧ wr.heap[w.heap.size + 1]? = some (.cells #[.int .i64 0, .int .i64 0, .int .i64 0] 36 (0, 0)) ∧ Below w.heap.size w wr) (fun i _ => s.size - (intOf i).toNat)
 case atStart => exact ⟨0, u, Nat.zero_le _, rfl, hu, hset_alloc (hset_new rfl), hset_new (by simp), by exact bl⟩
 case round =>
  obtain ⟨k, ⟨uw, ul, uh⟩, hk, rfl, hok, hU, hR, hb⟩ := hrel
  simp only at hU
  obtain ⟨wi, hwi⟩ : ∃ wi : World, wi = wr := ⟨_, rfl⟩
  subst hwi
  have kU := box_cells hU; have hlU := box_lt hU; have kR := box_cells hR; have fR := box_frozen hR; have hlR := box_lt hR; have fU := box_frozen hU
  have u0 := kU 0; have u1 := kU 1; have u2 := kU 2; have r0 := kR 0; have r1 := kR 1; have r2 := kR 2
  simp only [List.getElem?_toArray, List.getElem?_cons_zero, List.getElem?_cons_succ] at u0 u1 u2 r0 r1 r2
  have HU := Lib.hid hU; have HR := Lib.hid hR; have HOK := Lib.hid hok; clear hU hR hok kU kR
  by_cases hlt : k < s.size
  ·have hki : (k : Int) < (s.size : Int) := by omega
   go_upto_region 4 with fail
   go_cut [7, 8] from 9 to 28 (fun p b wx => ∃ (F : Nat) (v : Ut) (ok : Bool), p = .pointer (some ⟨F, 0, none⟩) ∧ b = .bool ok ∧ v.ok ∧ wx.heap[F]? = some (.cells #[.int .i64 v.want, .int .i64 v.low, .int .i64 v.high] 36 (0, 0)) ∧ Below wi.heap.size wi wx)
   case first =>
    refine wp_region_till (Cells [(⟨w.heap.size, 0, none⟩, .int .i64 uw), (⟨w.heap.size, 1, none⟩, .int .i64 ul), (⟨w.heap.size, 2, none⟩, .int .i64 uh)]) (fun _ => false) (by kernel_rfl) ?_
    have hS : Cells [(⟨w.heap.size, 0, none⟩, .int .i64 uw), (⟨w.heap.size, 1, none⟩, .int .i64 ul), (⟨w.heap.size, 2, none⟩, .int .i64 uh)] wi.drew := cells_mk u0 (cells_mk u1 (cells_mk u2 (cells_no _)))
    have hbd : Below wi.heap.size wi wi.drew := (Below.refl _ _).drew
    refine tk (i := 0) hS ?_
    refine tk (i := 1) hS ?_
    refine tk (i := 2) hS ?_
    refine tk (i := 3) hS ?_
    refine tk (i := 4) hS ?_
    refine wpTill_two (i := 5) (j := 9) (by kernel_rfl) rfl rfl (fun K hK => ?_) (fun K hK => ?_)
    ·go_simp
     refine (utfByte_any ⟨uw, ul, uh⟩ _ _ HOK.out).mono ?_
     rintro r v1 ⟨⟨vw, vl, vh⟩, ok, rfl, hvok, hv1⟩
     have hv : Below wi.heap.size wi v1 := hbd.trans hv1
     have HVK := Lib.hid hvok; clear hvok
     have hS1 := hS.below hv1; clear hS; have hS := hS1; clear hS1
     refine hK.out _ _ (fun _ => hS) ?_
     clear hK K
     try simp only [List.getElem_toArray, List.getElem_cons_succ, List.getElem_cons_zero, Act.put, List.setIfInBounds_toArray, List.set_cons_zero, List.set_cons_succ]
     refine tk (i := 6) hS ?_
     refine tk (i := 7) hS ?_
     refine tk (i := 8) hS ?_
     refine wpTill_op (i := 9) (by kernel_rfl) rfl (fun K hK => ?_)
     go_simp
     refine hK.out _ _ (fun _ => hS.alloc _) ?_
     clear hK K
     try simp only [List.getElem_toArray, List.getElem_cons_succ, List.getElem_cons_zero, Act.put, List.setIfInBounds_toArray, List.set_cons_zero, List.set_cons_succ]
     refine wpTill_op (i := 10) (by kernel_rfl) rfl (fun K hK => ?_)
     go_simp
     refine hK.out _ _ (fun _ => hS.alloc _) ?_
     clear hK K
     try simp only [List.getElem_toArray, List.getElem_cons_succ, List.getElem_cons_zero, Act.put, List.setIfInBounds_toArray, List.set_cons_zero, List.set_cons_succ]
     refine wpTill_op (i := 11) (by kernel_rfl) rfl (fun K hK => ?_)
     go_simp
     refine hK.out _ _ (fun _ => hS.alloc _) ?_
     clear hK K
     refine wpTill_done (by kernel_rfl) ?_ _
     go_wp2_with fail
     go_meet
     case rel => exact ⟨_, ⟨vw, vl, vh⟩, ok, rfl, rfl, HVK.out, hset_new rfl, hv.alloc hv.size _⟩
    ·go_simp
     refine hK.out _ _ (fun _ => (hS.alloc _).drew) ?_
     clear hK K
     try simp only [List.getElem_toArray, List.getElem_cons_succ, List.getElem_cons_zero, Act.put, List.setIfInBounds_toArray, List.set_cons_zero, List.set_cons_succ]
     have hbo : Below wi.heap.size wi (wi.alloc (.cells #[.int .i64 0, .int .i64 0, .int .i64 0] 36)).drew := ((Below.refl _ _).alloc (Nat.le_refl _) _).drew
     refine wpTill_op (i := 5) (by kernel_rfl) rfl (fun K hK => ?_)
     go_simp
     refine (utfByte_any ⟨uw, ul, uh⟩ _ _ HOK.out).mono ?_
     rintro r v1 ⟨⟨vw, vl, vh⟩, ok, rfl, hvok, hv1⟩
     have hv : Below wi.heap.size wi v1 := hbo.trans (hv1.mono (by simp))
     have HVK := Lib.hid hvok; clear hvok
     have hS0 : Cells [(⟨w.heap.size, 0, none⟩, .int .i64 uw), (⟨w.heap.size, 1, none⟩, .int .i64 ul), (⟨w.heap.size, 2, none⟩, .int .i64 uh)] (wi.alloc (.cells #[.int .i64 0, .int .i64 0, .int .i64 0] 36)).drew := (hS.alloc _).drew
     have hS1 := hS0.below hv1; clear hS hS0; have hS := hS1; clear hS1
     refine hK.out _ _ (fun _ => hS) ?_
     clear hK K
     try simp only [List.getElem_toArray, List.getElem_cons_succ, List.getElem_cons_zero, Act.put, List.setIfInBounds_toArray, List.set_cons_zero, List.set_cons_succ]
     refine tk (i := 6) hS ?_
     refine tk (i := 7) hS ?_
     refine tk (i := 8) hS ?_
     have hF1 : v1.heap[wi.heap.size]? = some (.cells #[.int .i64 0, .int .i64 0, .int .i64 0] 36 (0, 0)) := (hv1.block wi.heap.size (by simp)).trans (hset_drew (hset_new rfl))
     have hne : ∀ q' ∈ ([(⟨w.heap.size, 0, none⟩, .int .i64 uw), (⟨w.heap.size, 1, none⟩, .int .i64 ul), (⟨w.heap.size, 2, none⟩, .int .i64 uh)] : List (Addr × Value)), wi.heap.size ≠ q'.1.block := by intro q' hq'; simp only [List.mem_cons, List.not_mem_nil, or_false] at hq'; rcases hq' with rfl | rfl | rfl <;> (simp only; omega)
     refine wpTill_op (i := 10) (by kernel_rfl) rfl (fun K hK => ?_)
     refine step_store_row rfl _ _ _ rfl wi.heap.size #[.int .i64 vw, .int .i64 vl, .int .i64 vh] rfl rfl 36 _ hF1 (by kernel_rfl) rfl (by simp [Value.oneCell']) ?_
     refine hK.out _ _ (fun _ => cells_setRowU hS hne _) ?_
     clear hK K
     try simp only [List.getElem_toArray, List.getElem_cons_succ, List.getElem_cons_zero, Act.put, List.setIfInBounds_toArray, List.set_cons_zero, List.set_cons_succ]
     refine wpTill_op (i := 11) (by kernel_rfl) rfl (fun K hK => ?_)
     go_simp
     refine hK.out _ _ (fun _ => cells_setRowU hS hne _) ?_
     clear hK K
     refine wpTill_done (by kernel_rfl) ?_ _
     go_wp2_with fail
     go_meet
     case rel => exact ⟨_, ⟨vw, vl, vh⟩, ok, rfl, rfl, HVK.out, hset_row hF1, below_setRow hv (Nat.le_refl _) _⟩
   case rest =>
    obtain ⟨F, ⟨vw, vl, vh⟩, ok, rfl, rfl, hvok, hF, hbx⟩ := hcut
    simp only at hF
    have kF := box_cells hF
    have q0 := kF 0; have q1 := kF 1; have q2 := kF 2
    simp only [List.getElem?_toArray, List.getElem?_cons_zero, List.getElem?_cons_succ] at q0 q1 q2
    have hU' := (hbx.block _ hlU).trans HU.out; have hR' := (hbx.block _ hlR).trans HR.out
    have hbw : Below w.heap.size w wc := hb.trans (hbx.mono hb.size)
    clear kF u0 u1 u2 r0 r1 r2 fR fU
    have kU := box_cells hU'; have kR := box_cells hR'; have fR := box_frozen hR'; have fU := box_frozen hU'
    have u0 := kU 0; have u1 := kU 1; have u2 := kU 2; have r0 := kR 0; have r1 := kR 1; have r2 := kR 2
    simp only [List.getElem?_toArray, List.getElem?_cons_zero, List.getElem?_cons_succ] at u0 u1 u2 r0 r1 r2
    have HU' := Lib.hid hU'; have HR' := Lib.hid hR'; have HVK := Lib.hid hvok; clear hU' hR' hvok kU kR
    cases ok
    ·go_wp2_with fail
     refine bodyPost_ret (results_cell_tmp Tryz.results139 rfl rfl (run_loadVar_mid _ (w.heap.size + 1) 0 36 [.int .i64 uw, .int .i64 ul, .int .i64 uh] _ (range_of_box (t := 36) ?_) Tryz.underlying36 rfl (by kernel_rfl))) rfl ⟨⟨uw, ul, uh⟩, _, rfl, HOK.out, ((hbw.setCell (by simp) _).setCell (by simp) _).setCell (by simp) _⟩
     apply hset_eq (hset_set (hset_set (hset_set HR'.out))); simp only [List.setIfInBounds_toArray, List.set_cons_zero, List.set_cons_succ]
    ·go_wp2_with fail
     go_roundw
     case rel =>
      refine ⟨k + 1, ⟨vw, vl, vh⟩, by omega, by go_num, HVK.out, ?_, hset_other (hset_other (hset_other HR'.out (by simp)) (by simp)) (by simp), ((hbw.setCell (by simp) _).setCell (by simp) _).setCell (by simp) _⟩
      apply hset_eq (hset_set (hset_set (hset_set HU'.out))); simp only [List.setIfInBounds_toArray, List.set_cons_zero, List.set_cons_succ]
     case measure => simp [intOf]; omega
  ·go_wp2_with fail
   refine bodyPost_ret (results_cell_tmp Tryz.results139 rfl rfl (run_loadVar_mid _ (w.heap.size + 1) 0 36 [.int .i64 uw, .int .i64 ul, .int .i64 uh] _ (range_of_box (t := 36) ?_) Tryz.underlying36 rfl (by kernel_rfl))) rfl ⟨⟨uw, ul, uh⟩, _, rfl, HOK.out, ((hb.setCell (by simp) _).setCell (by simp) _).setCell (by simp) _⟩
   apply hset_eq (hset_set (hset_set (hset_set HR.out))); simp only [List.setIfInBounds_toArray, List.set_cons_zero, List.set_cons_succ]
def SomeUs (w : World) (r : Ending) (w' : World) : Prop := ∃ u : Ut, r = .returned u.val ∧ u.ok ∧ Below w.heap.size w w'
set_option maxRecDepth 100000 in
set_option maxHeartbeats 2000000 in
theorem utfState_any (s : ByteArray) (w : World) (hs : s.size ≤ 1000000) : Calls Tryz.prog 115 #[.string s] w (SomeUs w) := by
 go_enter Tryz.func115, Tryz.ntmps115
 go_wp2_with fail
 refine (utfText_any ⟨0, 0, 0⟩ s _ (ut_small 0 0 0 (by omega) (by omega) (by omega)) hs).mono ?_
 rintro r w1 ⟨⟨uw, ul, uh⟩, i, rfl, hu, hb1⟩
 have HU := Lib.hid hu; clear hu
 have hR := (hb1.block w.heap.size (by simp)).trans (hset_new (o := .cells #[.int .i64 0, .int .i64 0, .int .i64 0] 36) rfl)
 have hbw : Below w.heap.size w w1 := ((Below.refl _ _).alloc (Nat.le_refl _) _).trans (hb1.mono (by simp))
 have kR := box_cells hR; have fR := box_frozen hR; have hlR := box_lt hR
 have r0 := kR 0; have r1 := kR 1; have r2 := kR 2
 simp only [List.getElem?_toArray, List.getElem?_cons_zero, List.getElem?_cons_succ] at r0 r1 r2
 have HR := Lib.hid hR; clear hR kR
 go_wp2_with fail
 refine bodyPost_ret (results_cell Tryz.results115 rfl (run_loadVar_mid _ w.heap.size 0 36 [.int .i64 uw, .int .i64 ul, .int .i64 uh] _ (range_of_box (t := 36) ?_) Tryz.underlying36 rfl (by kernel_rfl))) rfl ⟨⟨uw, ul, uh⟩, rfl, HU.out, by exact bl⟩
 apply hset_alloc
 apply hset_eq (hset_set (hset_set (hset_set HR.out))); simp only [List.setIfInBounds_toArray, List.set_cons_zero, List.set_cons_succ]
def DrawnUt (B : Nat) (w : World) (r : Ending) (w' : World) : Prop := ∃ u : Ut, r = .returned u.val ∧ u.ok ∧ Up B w w'
structure MidU (w : World) (B S : Nat) (u : Ut) (wx : World) : Prop where
 res : wx.heap[w.heap.size]? = some (.cells #[.int .i64 0, .int .i64 0, .int .i64 0] 36 (0, 0))
 box : wx.heap[S]? = some (.cells #[.int .i64 u.want, .int .i64 u.low, .int .i64 u.high] 36 (0, 0))
 ok : u.ok
 up : Up B w wx
theorem MidU.step {w : World} {B S : Nat} {u : Ut} {wx wy : World} (h : MidU w B S u wx) (hB : B < w.heap.size) (hS : w.heap.size < S) (hc : Cur wy B) (ho : Oth B wx wy) : MidU w B S u wy :=
 ⟨(ho.block (box_lt h.res) (by omega)).trans h.res, (ho.block (box_lt h.box) (by omega)).trans h.box, h.ok, h.up.step hc ho⟩
theorem MidU.below {w : World} {B S : Nat} {u : Ut} {wx wy : World} (h : MidU w B S u wx) (hB : B < w.heap.size) (hb : Below wx.heap.size wx wy) : MidU w B S u wy :=
 ⟨(hb.block _ (box_lt h.res)).trans h.res, (hb.block _ (box_lt h.box)).trans h.box, h.ok, h.up.below hB hb h.up.oth.size⟩
theorem MidU.put {w : World} {B S o : Nat} {u v : Ut} {x : Value} {wx : World} (h : MidU w B S u wx) (hB : B < w.heap.size) (hS : w.heap.size < S) (hv : v.ok) (hc : (#[.int .i64 u.want, .int .i64 u.low, .int .i64 u.high] : Array Value).setIfInBounds o x = #[.int .i64 v.want, .int .i64 v.low, .int .i64 v.high]) : MidU w B S v (wx.setCell ⟨S, o, none⟩ x) :=
 ⟨hset_other h.res (by simp; omega), by apply hset_eq (hset_set h.box); rw [hc], hv, h.up.below hB ((Below.refl (w.heap.size + 1) _).setCell (by simp; omega) _) (by omega)⟩
set_option maxRecDepth 100000 in
set_option maxHeartbeats 2000000 in
theorem l5State_any (B : Nat) (w : World) (hc : Cur w B) : Calls Tryz.prog 79 #[.pointer (some ⟨B, 0, none⟩)] w (DrawnUt B w) := by
 have hB := hc.lt
 go_enter Tryz.func79, Tryz.ntmps79
 go_wp2_with fail
 refine (l5Bent_any B _ ((Up.refl hc).alloc hB _).cur).mono ?_
 rintro r w1 ⟨s, rfl, hs, hc1, ho1⟩
 have hu1 := ((Up.refl hc).alloc hB (.cells #[.int .i64 0, .int .i64 0, .int .i64 0] 36)).step hc1 ho1
 have hR1 := (ho1.block (b := w.heap.size) (by simp) (by omega)).trans (hset_new (o := .cells #[.int .i64 0, .int .i64 0, .int .i64 0] 36) rfl)
 have hz1 := ho1.size
 simp only [World.size_alloc] at hz1
 go_wp2_with fail
 refine (utfState_any s w1 (by omega)).mono ?_
 rintro r w2 ⟨⟨uw, ul, uh⟩, rfl, hu, hb2⟩
 have hu2 := hu1.below hB hb2 hu1.oth.size
 have hz2 := hb2.size
 have HM2 := Lib.hid (show MidU w B w2.heap.size ⟨uw, ul, uh⟩ (w2.alloc (.cells #[.int .i64 uw, .int .i64 ul, .int .i64 uh] 36)) from ⟨hset_alloc ((hb2.block _ (by omega)).trans hR1), hset_new rfl, hu, hu2.alloc hB _⟩)
 clear hu hu1 hu2 hR1 ho1 hc1 hb2
 obtain ⟨S, hS⟩ : ∃ S, w2.heap.size = S := ⟨_, rfl⟩
 have hSl : w.heap.size < S := by omega
 rw [hS] at HM2
 have fin : ∀ (W : World) (v : Ut), MidU w B S v W → ∀ (tm : Array Value), tm.getD 2 undef = .pointer (some ⟨w.heap.size, 0, none⟩) → bodyPost Tryz.prog Tryz.f79 (DrawnUt B w) .ret ⟨tm, []⟩ (((W.setCell ⟨w.heap.size, 0, none⟩ (.int .i64 v.want)).setCell ⟨w.heap.size, 1, none⟩ (.int .i64 v.low)).setCell ⟨w.heap.size, 2, none⟩ (.int .i64 v.high)) := by
  intro W v h tm t1
  refine bodyPost_ret (results_cell Tryz.results79 t1 (run_loadVar_mid _ w.heap.size 0 36 [.int .i64 v.want, .int .i64 v.low, .int .i64 v.high] _ (range_of_box (t := 36) ?_) Tryz.underlying36 rfl (by kernel_rfl))) rfl ⟨v, rfl, h.ok, h.up.below hB ((((Below.refl w.heap.size _).setCell (by simp) _).setCell (by simp) _).setCell (by simp) _) (Nat.le_refl _)⟩
  apply hset_eq (hset_set (hset_set (hset_set h.res))); simp only [List.setIfInBounds_toArray, List.set_cons_zero, List.set_cons_succ]
 have seen : ∀ (W : World) (v : Ut), MidU w B S v W → (W.cell? ⟨w.heap.size, 0, none⟩ = some (.int .i64 0) ∧ W.cell? ⟨w.heap.size, 1, none⟩ = some (.int .i64 0) ∧ W.cell? ⟨w.heap.size, 2, none⟩ = some (.int .i64 0) ∧ (∀ j, W.frozen? ⟨w.heap.size, j, none⟩ = false)) ∧ (W.cell? ⟨S, 0, none⟩ = some (.int .i64 v.want) ∧ W.cell? ⟨S, 1, none⟩ = some (.int .i64 v.low) ∧ W.cell? ⟨S, 2, none⟩ = some (.int .i64 v.high) ∧ (∀ j, W.frozen? ⟨S, j, none⟩ = false)) :=
  fun W v h => ⟨⟨box_cells h.res 0, box_cells h.res 1, box_cells h.res 2, box_frozen h.res⟩, ⟨box_cells h.box 0, box_cells h.box 1, box_cells h.box 2, box_frozen h.box⟩⟩
 go_wp2_with fail
 refine (l1Below_any B 12 _ HM2.out.up.cur (by omega) (by omega)).mono ?_
 rintro r w3 ⟨y, rfl, hy0, hy1, hc3, ho3⟩
 have HM := Lib.hid (HM2.out.step hB hSl hc3 ho3)
 clear HM2 hc3 ho3
 try simp only [hS]
 clear hS hz1 hz2
 have hz3 := HM.out.up.oth.size
 obtain ⟨⟨r0, r1, r2, fR⟩, ⟨s0, s1, s2, fS⟩⟩ := seen _ _ HM.out
 simp only at s0 s1 s2
 rcases (show y = 0 ∨ y = 1 ∨ y = 2 ∨ 3 ≤ y by omega) with rfl | rfl | rfl | h3
 ·go_wp2_with fail
  refine (l1Below_any B 6 _ HM.out.up.cur (by omega) (by omega)).mono ?_
  rintro r w4 ⟨x, rfl, hx0, hx1, hc4, ho4⟩
  have hw4 : IntKind.i64.wrap (x - 1) = x - 1 := by rw [IntKind.wrap_i64]; omega
  have HM4 := Lib.hid (HM.out.step hB hSl hc4 ho4)
  have HMF := Lib.hid (HM4.out.put (o := 0) (x := .int .i64 (x - 1)) (v := ⟨x - 1, ul, uh⟩) hB hSl ⟨w64_255 (by simp only; omega) (by simp only; omega), HM4.out.ok.low, HM4.out.ok.high⟩ rfl)
  clear r0 r1 r2 fR s0 s1 s2 fS hc4 ho4
  obtain ⟨⟨r0, r1, r2, fR⟩, ⟨s0, s1, s2, fS⟩⟩ := seen _ _ HM4.out
  go_wp2_with fail
  exact fin _ ⟨x - 1, ul, uh⟩ HMF.out _ rfl
 ·go_wp2_with fail
  have hMa := HM.out.below (wy := w3.alloc (.cells #[.int .i64 0, .int .i64 128, .int .i64 144, .int .i64 160, .int .i64 (-1)] 3)) hB ((Below.refl _ _).alloc (Nat.le_refl _) _)
  refine (l1PickInt_in B w3.heap.size 5 [0, 128, 144, 160, -1] 3 _ hMa.up.cur (by omega) (hset_new rfl) (by decide) (by decide)).mono ?_
  rintro r w4 ⟨x, rfl, hx, hc4, ho4⟩
  have hw : W64 x := by
   simp only [List.mem_cons, List.not_mem_nil, or_false] at hx
   rcases hx with rfl | rfl | rfl | rfl | rfl <;> exact w64_lim (by omega) (by omega)
  have HM4 := Lib.hid (hMa.step hB hSl hc4 ho4)
  have HMF := Lib.hid (HM4.out.put (o := 1) (x := .int .i64 x) (v := ⟨uw, x, uh⟩) hB hSl ⟨HM4.out.ok.want, hw, HM4.out.ok.high⟩ rfl)
  clear r0 r1 r2 fR s0 s1 s2 fS hx hw hc4 ho4 hMa
  obtain ⟨⟨r0, r1, r2, fR⟩, ⟨s0, s1, s2, fS⟩⟩ := seen _ _ HM4.out
  go_wp2_with fail
  exact fin _ ⟨uw, x, uh⟩ HMF.out _ rfl
 ·go_wp2_with fail
  have hMa := HM.out.below (wy := w3.alloc (.cells #[.int .i64 0, .int .i64 143, .int .i64 159, .int .i64 191, .int .i64 255] 3)) hB ((Below.refl _ _).alloc (Nat.le_refl _) _)
  refine (l1PickInt_in B w3.heap.size 5 [0, 143, 159, 191, 255] 3 _ hMa.up.cur (by omega) (hset_new rfl) (by decide) (by decide)).mono ?_
  rintro r w4 ⟨x, rfl, hx, hc4, ho4⟩
  have hw : W64 x := by
   simp only [List.mem_cons, List.not_mem_nil, or_false] at hx
   rcases hx with rfl | rfl | rfl | rfl | rfl <;> exact w64_lim (by omega) (by omega)
  have HM4 := Lib.hid (hMa.step hB hSl hc4 ho4)
  have HMF := Lib.hid (HM4.out.put (o := 2) (x := .int .i64 x) (v := ⟨uw, ul, x⟩) hB hSl ⟨HM4.out.ok.want, HM4.out.ok.low, hw⟩ rfl)
  clear r0 r1 r2 fR s0 s1 s2 fS hx hw hc4 ho4 hMa
  obtain ⟨⟨r0, r1, r2, fR⟩, ⟨s0, s1, s2, fS⟩⟩ := seen _ _ HM4.out
  go_wp2_with fail
  exact fin _ ⟨uw, ul, x⟩ HMF.out _ rfl
 ·have y0 : (y == 0) = false := by simp; omega
  have y1 : (y == 1) = false := by simp; omega
  have y2 : (y == 2) = false := by simp; omega
  go_wp2_with fail
  exact fin _ ⟨uw, ul, uh⟩ HM.out _ rfl
def SomeSc (w : World) (r : Ending) (w' : World) : Prop := ∃ (b h c : Int), r = .returned (.tuple #[.agg #[.int .u64 b, .int .i64 h], .int .i64 c]) ∧ WU64 b ∧ W64 h ∧ Below w.heap.size w w'
def SomeFx (w : World) (r : Ending) (w' : World) : Prop := ∃ (b h : Int), r = .returned (.agg #[.int .u64 b, .int .i64 h]) ∧ WU64 b ∧ W64 h ∧ Below w.heap.size w w'
theorem w64_wrap (n : Int) : W64 (wrap64 n) := by
 unfold wrap64 W64; simp [Lit.wf, IntKind.min, IntKind.max, IntKind.signed, IntKind.bits]; omega
set_option maxRecDepth 100000 in
set_option maxHeartbeats 4000000 in
theorem fixByte_any (b h c : Int) (w : World) (hb : WU64 b) (hh : W64 h) : Calls Tryz.prog 158 #[.agg #[.int .u64 b, .int .i64 h], .int .i64 c] w (SomeFx w) := by
 cases i1 : inB h 0 7
 ·go_enter Tryz.func158, Tryz.ntmps158
  go_wp2_with (first | (go_at_call 51; refine (l1In_any _ _ _ _).mono ?_; rintro r w1 ⟨rfl, rfl⟩; rw [i1]))
  exact bodyPost_ret (by simp [results, Tryz.results158, go_sem]; try rfl) rfl ⟨_, _, rfl, hb, hh, by exact bl⟩
 ·cases i2 : inB c 0 255
  ·go_enter Tryz.func158, Tryz.ntmps158
   go_wp2_with (first | (go_at_call 51; refine (l1In_any _ _ _ _).mono ?_; rintro r w1 ⟨rfl, rfl⟩; first | rw [i1] | rw [i2]))
   exact bodyPost_ret (by simp [results, Tryz.results158, go_sem]; try rfl) rfl ⟨_, _, rfl, hb, hh, by exact bl⟩
  ·go_enter Tryz.func158, Tryz.ntmps158
   go_wp2_with (first | (go_at_call 51; refine (l1In_any _ _ _ _).mono ?_; rintro r w1 ⟨rfl, rfl⟩; first | rw [i1] | rw [i2]))
   exact bodyPost_ret (by simp [results, Tryz.results158, go_sem]; first | rfl | exact ⟨rfl, rfl⟩) rfl ⟨_, _, rfl, wrap_wu64 _, w64_wrap _, by exact bl⟩
set_option maxRecDepth 100000 in
set_option maxHeartbeats 8000000 in
theorem scanByte_any (b h c : Int) (w : World) (hb : WU64 b) (hh : W64 h) : Calls Tryz.prog 114 #[.agg #[.int .u64 b, .int .i64 h], .int .i64 c] w (SomeSc w) := by
 have w9 : W64 9 := by unfold W64; decide
 cases i1 : scanOk b h
 ·go_enter Tryz.func114, Tryz.ntmps114
  go_wp2_with (first | (go_at_call 109; refine (specScanOk_any _ _ _).mono ?_; rintro r w1 ⟨rfl, hb1⟩; rw [i1]; obtain ⟨hc1, hf1⟩ := bcell hb1; have hq1 : w.heap.size + 1 < w1.heap.size := by {have := hb1.size; simp at this; omega}; have hq0 : w.heap.size < w1.heap.size := by omega) | (go_at_call 51; refine (l1In_any _ _ _ _).mono ?_; rintro r w2 ⟨rfl, rfl⟩; rw [i2]))
  exact bodyPost_ret (by simp [results, Tryz.results114, go_sem, hc1]; first | rfl | exact ⟨rfl, rfl⟩) rfl ⟨_, _, _, rfl, hb, hh, by exact bl⟩
 ·cases i2 : inB c 0 255
  ·go_enter Tryz.func114, Tryz.ntmps114
   go_wp2_with (first | (go_at_call 109; refine (specScanOk_any _ _ _).mono ?_; rintro r w1 ⟨rfl, hb1⟩; rw [i1]; obtain ⟨hc1, hf1⟩ := bcell hb1; have hq1 : w.heap.size + 1 < w1.heap.size := by {have := hb1.size; simp at this; omega}; have hq0 : w.heap.size < w1.heap.size := by omega) | (go_at_call 51; refine (l1In_any _ _ _ _).mono ?_; rintro r w2 ⟨rfl, rfl⟩; rw [i2]))
   exact bodyPost_ret (by simp [results, Tryz.results114, go_sem, hc1]; first | rfl | exact ⟨rfl, rfl⟩) rfl ⟨_, _, _, rfl, hb, hh, by exact bl⟩
  ·obtain ⟨h9, eh9⟩ : ∃ q, (h == 9) = q := ⟨_, rfl⟩
   obtain ⟨c1, ec1⟩ : ∃ q, decide (1 < c) = q := ⟨_, rfl⟩
   obtain ⟨c8, ec8⟩ : ∃ q, decide (c < 128) = q := ⟨_, rfl⟩
   go_enter Tryz.func114, Tryz.ntmps114
   go_wp2_with (first | (go_at_call 109; refine (specScanOk_any _ _ _).mono ?_; rintro r w1 ⟨rfl, hb1⟩; rw [i1]; obtain ⟨hc1, hf1⟩ := bcell hb1; have hq1 : w.heap.size + 1 < w1.heap.size := by {have := hb1.size; simp at this; omega}; have hq0 : w.heap.size < w1.heap.size := by omega) | (go_at_call 51; refine (l1In_any _ _ _ _).mono ?_; rintro r w2 ⟨rfl, rfl⟩; rw [i2]))
   all_goals first | (exact bodyPost_ret (by simp [results, Tryz.results114, go_sem, hc1]; first | rfl | exact ⟨rfl, rfl⟩) rfl ⟨_, _, _, rfl, hb, hh, by exact bl⟩) | skip
   all_goals
    have hR2 : w1.heap[w.heap.size + 1]? = some (.cells #[.int .u64 0, .int .i64 0] 32 (0, 0)) := (hb1.block (w.heap.size + 1) (by simp)).trans (hset_new (by simp))
    refine bodyPost_ret (results_cell_tmp Tryz.results114 rfl rfl (run_loadVar_mid _ (w.heap.size + 1) 0 32 [.int .u64 (IntKind.u64.wrap (b + IntKind.u64.wrap (IntKind.u64.wrap (c.tmod 128) * 2 ^ min (IntKind.u64.wrap (wrap64 (7 * h))).toNat 64))), .int .i64 (wrap64 (h + 1))] _ (range_of_box (t := 32) ?_) Tryz.underlying32 rfl (by kernel_rfl))) rfl ⟨_, _, _, rfl, wrap_wu64 _, w64_wrap _, by exact bl⟩
    apply hset_alloc
    apply hset_eq (hset_set (hset_set hR2)); simp only [List.setIfInBounds_toArray, List.set_cons_zero, List.set_cons_succ]
def DrawnFx (B : Nat) (w : World) (r : Ending) (w' : World) : Prop := ∃ (b h : Int), r = .returned (.agg #[.int .u64 b, .int .i64 h]) ∧ WU64 b ∧ W64 h ∧ Up B w w'
structure MidS (w : World) (B : Nat) (b h : Int) (wx : World) : Prop where
 res : wx.heap[w.heap.size]? = some (.cells #[.int .u64 0, .int .i64 0] 32 (0, 0))
 box : wx.heap[w.heap.size + 1]? = some (.cells #[.int .u64 b, .int .i64 h] 32 (0, 0))
 hb : WU64 b
 hh : W64 h
 up : Up B w wx
theorem MidS.step {w : World} {B : Nat} {b h : Int} {wx wy : World} (m : MidS w B b h wx) (hB : B < w.heap.size) (hc : Cur wy B) (ho : Oth B wx wy) : MidS w B b h wy :=
 ⟨(ho.block (box_lt m.res) (by omega)).trans m.res, (ho.block (box_lt m.box) (by omega)).trans m.box, m.hb, m.hh, m.up.step hc ho⟩
theorem MidS.below {w : World} {B : Nat} {b h : Int} {wx wy : World} (m : MidS w B b h wx) (hB : B < w.heap.size) (hb : Below wx.heap.size wx wy) : MidS w B b h wy :=
 ⟨(hb.block _ (box_lt m.res)).trans m.res, (hb.block _ (box_lt m.box)).trans m.box, m.hb, m.hh, m.up.below hB hb m.up.oth.size⟩
theorem MidS.put0 {w : World} {B : Nat} {b h b' : Int} {wx : World} (m : MidS w B b h wx) (hB : B < w.heap.size) (hv : WU64 b') : MidS w B b' h (wx.setCell ⟨w.heap.size + 1, 0, none⟩ (.int .u64 b')) :=
 ⟨hset_other m.res (by simp), by apply hset_eq (hset_set m.box); rfl, hv, m.hh, m.up.below hB ((Below.refl (w.heap.size + 1) _).setCell (by simp) _) (by omega)⟩
theorem MidS.put1 {w : World} {B : Nat} {b h h' : Int} {wx : World} (m : MidS w B b h wx) (hB : B < w.heap.size) (hv : W64 h') : MidS w B b h' (wx.setCell ⟨w.heap.size + 1, 1, none⟩ (.int .i64 h')) :=
 ⟨hset_other m.res (by simp), by apply hset_eq (hset_set m.box); rfl, m.hb, hv, m.up.below hB ((Below.refl (w.heap.size + 1) _).setCell (by simp) _) (by omega)⟩
set_option maxRecDepth 100000 in
set_option maxHeartbeats 4000000 in
theorem l3Scan_any (B : Nat) (w : World) (hc : Cur w B) : Calls Tryz.prog 78 #[.pointer (some ⟨B, 0, none⟩)] w (DrawnFx B w) := by
 have hB := hc.lt
 go_enter Tryz.func78, Tryz.ntmps78
 go_wp2_with fail
 have HM0 := Lib.hid (show MidS w B 0 0 ((w.alloc (.cells #[.int .u64 0, .int .i64 0] 32)).alloc (.cells #[.int .u64 0, .int .i64 0] 32)) from ⟨hset_alloc (hset_new rfl), hset_new (by simp), by unfold WU64; decide, by unfold W64; decide, ((Up.refl hc).alloc hB _).alloc hB _⟩)
 refine (l1Below_any B 10 _ HM0.out.up.cur (by omega) (by omega)).mono ?_
 rintro r w1 ⟨n, rfl, hn0, hn1, hc1, ho1⟩
 have HM1 := Lib.hid (HM0.out.step hB hc1 ho1)
 clear hc1 ho1 HM0
 go_wp2_with fail
 go_loopw [5] (fun i wr => ∃ (k : Nat) (b h : Int), (k : Int) ≤ n ∧ i = .int .i64 k ∧ MidS w B b h wr) (fun i _ => (n - intOf i).toNat)
 case atStart => exact ⟨0, 0, 0, by omega, rfl, HM1.out⟩
 case round =>
  obtain ⟨k, b, h, hk, rfl, hMr⟩ := hrel
  have HMr := Lib.hid hMr; clear hMr
  have p0 := box_cells HMr.out.box 0; have p1 := box_cells HMr.out.box 1; have fR := box_frozen HMr.out.res; have fS := box_frozen HMr.out.box; have r0 := box_cells HMr.out.res 0; have r1 := box_cells HMr.out.res 1
  simp only [List.getElem?_toArray, List.getElem?_cons_zero, List.getElem?_cons_succ] at p0 p1 r0 r1
  by_cases hlt : (k : Int) < n
  ·go_upto_region 6 with fail
   obtain ⟨wi, hwi⟩ : ∃ wi : World, wi = wr := ⟨_, rfl⟩
   subst hwi
   refine wp_region_till (fun _ => True) (fun _ => false) (by kernel_rfl) ?_
   have hS : True := True.intro
   have HMd := Lib.hid (HMr.out.below hB (show Below wi.heap.size wi wi.drew from (Below.refl _ _).drew))
   clear p0 p1 fR fS r0 r1
   refine tk (i := 1) hS ?_
   refine wpTill_two (i := 0) (j := 2) (by kernel_rfl) rfl rfl (fun K hK => ?_) (fun K hK => ?_)
   ·have p0 := box_cells HMd.out.box 0; have p1 := box_cells HMd.out.box 1; have fS := box_frozen HMd.out.box
    simp only [List.getElem?_toArray, List.getElem?_cons_zero, List.getElem?_cons_succ] at p0 p1
    go_simp
    clear p0 p1 fS
    refine hK.out _ _ (fun _ => True.intro) ?_
    clear hK K
    try simp only [List.getElem_toArray, List.getElem_cons_succ, List.getElem_cons_zero, Act.put, List.setIfInBounds_toArray, List.set_cons_zero, List.set_cons_succ]
    refine wpTill_op (i := 2) (by kernel_rfl) rfl (fun K hK => ?_)
    go_simp
    refine (l1Below_any B 128 _ HMd.out.up.cur (by omega) (by omega)).mono ?_
    rintro r v2 ⟨q, rfl, hq0, hq1, hc2, ho2⟩
    have HM3 := Lib.hid (HMd.out.step hB hc2 ho2)
    clear hc2 ho2 HMd
    refine hK.out _ _ (fun _ => True.intro) ?_
    clear hK K
    try simp only [List.getElem_toArray, List.getElem_cons_succ, List.getElem_cons_zero, Act.put, List.setIfInBounds_toArray, List.set_cons_zero, List.set_cons_succ]
    have hw8 : IntKind.i64.wrap (128 + q) = 128 + q := by rw [IntKind.wrap_i64]; omega
    refine tk (i := 3) hS ?_
    clear hw8
    refine wpTill_op (i := 4) (by kernel_rfl) rfl (fun K hK => ?_)
    go_simp
    refine (scanByte_any b h _ _ HM3.out.hb HM3.out.hh).mono ?_
    rintro r v4 ⟨b', h', c', rfl, hb', hh', hbe⟩
    have HM4 := Lib.hid (HM3.out.below hB hbe)
    have HBH := Lib.hid (And.intro hb' hh')
    clear hbe HM3 hb' hh'
    refine hK.out _ _ (fun _ => True.intro) ?_
    clear hK K
    try simp only [List.getElem_toArray, List.getElem_cons_succ, List.getElem_cons_zero, Act.put, List.setIfInBounds_toArray, List.set_cons_zero, List.set_cons_succ]
    refine tk (i := 5) hS ?_
    refine tk (i := 6) hS ?_
    refine tk (i := 7) hS ?_
    refine wpTill_op (i := 8) (by kernel_rfl) rfl (fun K hK => ?_)
    have HM5 := Lib.hid ((HM4.out.put0 hB HBH.out.1).put1 hB HBH.out.2)
    have p0 := box_cells HM4.out.box 0; have p1 := box_cells HM4.out.box 1; have fS := box_frozen HM4.out.box
    simp only [List.getElem?_toArray, List.getElem?_cons_zero, List.getElem?_cons_succ] at p0 p1
    go_simp
    refine hK.out _ _ (fun _ => True.intro) ?_
    clear hK K
    try simp only [List.getElem_toArray, List.getElem_cons_succ, List.getElem_cons_zero, Act.put, List.setIfInBounds_toArray, List.set_cons_zero, List.set_cons_succ]
    refine wpTill_done (by kernel_rfl) ?_ _
    clear p0 p1 fS
    go_wp2_with fail
    go_roundw
    case rel => exact ⟨k + 1, b', h', by omega, by go_num, HM5.out⟩
    case measure => simp [intOf]; omega
   ·go_simp
    refine (l1Below_any B 128 _ HMd.out.up.cur (by omega) (by omega)).mono ?_
    rintro r v2 ⟨q, rfl, hq0, hq1, hc2, ho2⟩
    have HM3 := Lib.hid (HMd.out.step hB hc2 ho2)
    clear hc2 ho2 HMd
    refine hK.out _ _ (fun _ => True.intro) ?_
    clear hK K
    try simp only [List.getElem_toArray, List.getElem_cons_succ, List.getElem_cons_zero, Act.put, List.setIfInBounds_toArray, List.set_cons_zero, List.set_cons_succ]
    have hw8 : IntKind.i64.wrap (128 + q) = 128 + q := by rw [IntKind.wrap_i64]; omega
    refine tk (i := 3) hS ?_
    clear hw8
    refine wpTill_op (i := 0) (by kernel_rfl) rfl (fun K hK => ?_)
    have p0 := box_cells HM3.out.box 0; have p1 := box_cells HM3.out.box 1; have fS := box_frozen HM3.out.box
    simp only [List.getElem?_toArray, List.getElem?_cons_zero, List.getElem?_cons_succ] at p0 p1
    go_simp
    clear p0 p1 fS
    refine hK.out _ _ (fun _ => True.intro) ?_
    clear hK K
    try simp only [List.getElem_toArray, List.getElem_cons_succ, List.getElem_cons_zero, Act.put, List.setIfInBounds_toArray, List.set_cons_zero, List.set_cons_succ]
    refine wpTill_op (i := 4) (by kernel_rfl) rfl (fun K hK => ?_)
    go_simp
    refine (scanByte_any b h _ _ HM3.out.hb HM3.out.hh).mono ?_
    rintro r v4 ⟨b', h', c', rfl, hb', hh', hbe⟩
    have HM4 := Lib.hid (HM3.out.below hB hbe)
    have HBH := Lib.hid (And.intro hb' hh')
    clear hbe HM3 hb' hh'
    refine hK.out _ _ (fun _ => True.intro) ?_
    clear hK K
    try simp only [List.getElem_toArray, List.getElem_cons_succ, List.getElem_cons_zero, Act.put, List.setIfInBounds_toArray, List.set_cons_zero, List.set_cons_succ]
    refine tk (i := 5) hS ?_
    refine tk (i := 6) hS ?_
    refine tk (i := 7) hS ?_
    refine wpTill_op (i := 8) (by kernel_rfl) rfl (fun K hK => ?_)
    have HM5 := Lib.hid ((HM4.out.put0 hB HBH.out.1).put1 hB HBH.out.2)
    have p0 := box_cells HM4.out.box 0; have p1 := box_cells HM4.out.box 1; have fS := box_frozen HM4.out.box
    simp only [List.getElem?_toArray, List.getElem?_cons_zero, List.getElem?_cons_succ] at p0 p1
    go_simp
    refine hK.out _ _ (fun _ => True.intro) ?_
    clear hK K
    try simp only [List.getElem_toArray, List.getElem_cons_succ, List.getElem_cons_zero, Act.put, List.setIfInBounds_toArray, List.set_cons_zero, List.set_cons_succ]
    refine wpTill_done (by kernel_rfl) ?_ _
    clear p0 p1 fS
    go_wp2_with fail
    go_roundw
    case rel => exact ⟨k + 1, b', h', by omega, by go_num, HM5.out⟩
    case measure => simp [intOf]; omega
  ·go_wp2_with fail
   refine (l1Below_any B 10 _ HMr.out.up.cur (by omega) (by omega)).mono ?_
   rintro r w3 ⟨y, rfl, hy0, hy1, hc3, ho3⟩
   have HM3 := Lib.hid (HMr.out.step hB hc3 ho3)
   clear hc3 ho3 HMr p0 p1 r0 r1 fR fS
   have hz3 := HM3.out.up.oth.size
   have p0 := box_cells HM3.out.box 0; have p1 := box_cells HM3.out.box 1; have fR := box_frozen HM3.out.res; have fS := box_frozen HM3.out.box; have r0 := box_cells HM3.out.res 0; have r1 := box_cells HM3.out.res 1
   simp only [List.getElem?_toArray, List.getElem?_cons_zero, List.getElem?_cons_succ] at p0 p1 r0 r1
   have fin : ∀ (W : World) (b h : Int), MidS w B b h W → ∀ (tm : Array Value), tm.getD 2 undef = .pointer (some ⟨w.heap.size, 0, none⟩) → bodyPost Tryz.prog Tryz.f78 (DrawnFx B w) .ret ⟨tm, []⟩ ((W.setCell ⟨w.heap.size, 0, none⟩ (.int .u64 b)).setCell ⟨w.heap.size, 1, none⟩ (.int .i64 h)) := by
    intro W b h m tm t1
    refine bodyPost_ret (results_cell Tryz.results78 t1 (run_loadVar_mid _ w.heap.size 0 32 [.int .u64 b, .int .i64 h] _ (range_of_box (t := 32) ?_) Tryz.underlying32 rfl (by kernel_rfl))) rfl ⟨b, h, rfl, m.hb, m.hh, m.up.below hB (((Below.refl w.heap.size _).setCell (by simp) _).setCell (by simp) _) (Nat.le_refl _)⟩
    apply hset_eq (hset_set (hset_set m.res)); simp only [List.setIfInBounds_toArray, List.set_cons_zero, List.set_cons_succ]
   rcases (show y = 0 ∨ y = 1 ∨ 2 ≤ y by omega) with rfl | rfl | h3
   ·go_wp2_with fail
    have hMa := HM3.out.below (wy := w3.alloc (.cells #[.int .i64 (-1), .int .i64 0, .int .i64 9, .int .i64 10, .int .i64 11, .int .i64 9223372036854775807, .int .i64 (-9223372036854775808)] 3)) hB ((Below.refl _ _).alloc (Nat.le_refl _) _)
    refine (l1PickInt_in B w3.heap.size 7 [-1, 0, 9, 10, 11, 9223372036854775807, -9223372036854775808] 3 _ hMa.up.cur (by omega) (hset_new rfl) (by decide) (by decide)).mono ?_
    rintro r w4 ⟨x, rfl, hx, hc4, ho4⟩
    have hw : W64 x := by
     simp only [List.mem_cons, List.not_mem_nil, or_false] at hx
     rcases hx with rfl | rfl | rfl | rfl | rfl | rfl | rfl <;> (unfold W64; decide)
    have HM4 := Lib.hid (hMa.step hB hc4 ho4)
    have HMF := Lib.hid (HM4.out.put1 hB hw)
    clear p0 p1 fR fS r0 r1 hx hw hc4 ho4 hMa
    have p0 := box_cells HM4.out.box 0; have p1 := box_cells HM4.out.box 1; have fR := box_frozen HM4.out.res; have fS := box_frozen HM4.out.box; have r0 := box_cells HM4.out.res 0; have r1 := box_cells HM4.out.res 1
    simp only [List.getElem?_toArray, List.getElem?_cons_zero, List.getElem?_cons_succ] at p0 p1 r0 r1
    go_wp2_with fail
    exact fin _ b x HMF.out _ rfl
   ·go_wp2_with fail
    refine (l1Wide_any B _ HM3.out.up.cur).mono ?_
    rintro r w4 ⟨x, rfl, hx, hc4, ho4⟩
    have HM4 := Lib.hid (HM3.out.step hB hc4 ho4)
    have HMF := Lib.hid (HM4.out.put0 hB hx)
    clear p0 p1 fR fS r0 r1 hx hc4 ho4
    have p0 := box_cells HM4.out.box 0; have p1 := box_cells HM4.out.box 1; have fR := box_frozen HM4.out.res; have fS := box_frozen HM4.out.box; have r0 := box_cells HM4.out.res 0; have r1 := box_cells HM4.out.res 1
    simp only [List.getElem?_toArray, List.getElem?_cons_zero, List.getElem?_cons_succ] at p0 p1 r0 r1
    go_wp2_with fail
    exact fin _ x h HMF.out _ rfl
   ·have y0 : (y == 0) = false := by simp; omega
    have y1 : (y == 1) = false := by simp; omega
    go_wp2_with fail
    exact fin _ b h HM3.out _ rfl
end Go.Proofs.YtabdjimjelfbfaaGreat

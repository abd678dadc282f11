/- Draws of events and of lists of events. -/
import Derived.Test.YtigmdaiecdoimaaDrawR
import Derived.Test.YtigmdaiecdoimaaEvMark
import Derived.Deep.MidRow
namespace Go.Proofs.Ytigmdaiecdoimaa
set_option linter.unusedSimpArgs false
set_option linter.unusedVariables false
open Go.ChangeShapes Go.WideShapes Go.ChangeAt Go.RowKit Go.BigFrame

theorem Up.set {B b o : Nat} {w0 w : World} (h : Up B w0 w) (hb : w0.heap.size ≤ b) (hB : B < w0.heap.size) (v : Value) : Up B w0 (w.setCell ⟨b, o, none⟩ v) := by
  have hsz := h.oth.size
  have hk : ∀ k, k < w0.heap.size → (w.setCell ⟨b, o, none⟩ v).heap[k]? = w.heap[k]? := fun k hk => Below.heap_setCell w ⟨b, o, none⟩ v k (by simp; omega)
  refine ⟨h.cur.same fun k hk' => hk k (by omega), ?_⟩
  have h' : w0.grownBy w (some B) := h.oth
  obtain ⟨a, b', c, d, e⟩ := h'
  exact ⟨a, b', c, by simpa [World.setCell] using d, fun k hk' hn => (hk k hk').trans (e k hk' hn)⟩
theorem Up.drew {B : Nat} {w0 w : World} (h : Up B w0 w) : Up B w0 w.drew := by
  obtain ⟨hc, ho⟩ := h
  have h' : w0.grownBy w (some B) := ho
  obtain ⟨a, b', c, d, e⟩ := h'
  exact ⟨hc, ⟨a, b', c, d, e⟩⟩
theorem heap_snd (w : World) (o p : Obj) : ((w.alloc o).alloc p).heap[w.heap.size + 1]? = some p := hset_new (by simp)
theorem w64_mid {u : Int} (h0 : -1000000 ≤ u) (h1 : u ≤ 1000000) : W64 u := by
  unfold W64; simp [Lit.wf, IntKind.min, IntKind.max, IntKind.signed, IntKind.bits]; omega
def DrawnS (B : Nat) (l : List ByteArray) (w : World) (r : Ending) (w' : World) : Prop := ∃ x : ByteArray, r = .returned (.string x) ∧ x ∈ l ∧ Cur w' B ∧ Oth B w w'
theorem l1Pick_any (B g cap : Nat) (l : List ByteArray) (t : TypeId) (w : World) (hc : Cur w B) (hg : g ≠ B) (h : w.heap[g]? = some (.cells (l.map Value.string).toArray t (0, 0))) (h0 : 0 < l.length) (h1 : l.length ≤ 256) :
    Calls Try.prog 130 #[.pointer (some ⟨B, 0, none⟩), .slice (some ⟨g, 0, none⟩) l.length cap] w (DrawnS B l w) := by
  obtain ⟨n, hn⟩ : ∃ n, n = l.length := ⟨_, rfl⟩
  rw [← hn] at h0 h1 ⊢
  have HN := Lib.hid hn; clear hn
  have HH := Lib.hid h; clear h
  go_enter Try.func130, Try.ntmps130
  go_wp2_with fail
  refine (l1Below_any B n w hc (by omega) (by omega)).mono ?_
  rintro r w1 ⟨x, rfl, hx0, hx1, hc1, ho1⟩
  obtain ⟨k, rfl⟩ := Int.eq_ofNat_of_zero_le hx0
  have hgl : g < w.heap.size := box_lt HH.out
  have hb := (ho1.block hgl hg).trans HH.out
  have hk : k < l.length := by have := HN.out; omega
  obtain ⟨x, hx⟩ : ∃ x, x = l[k] := ⟨_, rfl⟩
  have hcx : w1.cell? ⟨g, k, none⟩ = some (.string x) := by simp [World.cell?, hb, hk, hx]
  have HM := Lib.hid (show x ∈ l from hx ▸ List.getElem_mem hk)
  clear hb hx
  go_wp2
  go_ret
  exact ⟨x, rfl, HM.out, hc1, ho1⟩
end Go.Proofs.Ytigmdaiecdoimaa

/- Draws of numbers, with what is known of them. -/
import Derived.Test.YtbgejldjgkihaaaDrawR
namespace Go.Proofs.Ytbgejldjgkihaaa
set_option linter.unusedSimpArgs false
set_option linter.unusedVariables false
open Go.ChangeShapes Go.WideShapes Go.ChangeAt Go.RowKit Go.BigFrame

def DrawnIn (B : Nat) (l : List Int) (w : World) (r : Ending) (w' : World) : Prop := ∃ x : Int, r = .returned (.int .i64 x) ∧ x ∈ l ∧ Cur w' B ∧ Oth B w w'
theorem l1PickInt_in (B g cap : Nat) (l : List Int) (t : TypeId) (w : World) (hc : Cur w B) (hg : g ≠ B) (h : w.heap[g]? = some (.cells (l.map (Value.int .i64)).toArray t (0, 0))) (h0 : 0 < l.length) (h1 : l.length ≤ 256) :
    Calls Try.prog 102 #[.pointer (some ⟨B, 0, none⟩), .slice (some ⟨g, 0, none⟩) l.length cap] w (DrawnIn B l w) := by
  obtain ⟨n, hn⟩ : ∃ n, n = l.length := ⟨_, rfl⟩
  rw [← hn] at h0 h1 ⊢
  have HN := Lib.hid hn; clear hn
  have HH := Lib.hid h; clear h
  go_enter Try.func102, Try.ntmps102
  go_wp2_with fail
  refine (l1Below_any B n w hc (by omega) (by omega)).mono ?_
  rintro r w1 ⟨x, rfl, hx0, hx1, hc1, ho1⟩
  obtain ⟨k, rfl⟩ := Int.eq_ofNat_of_zero_le hx0
  have hgl : g < w.heap.size := box_lt HH.out
  have hb := (ho1.block hgl hg).trans HH.out
  have hkl : k < l.length := by have := HN.out; omega
  obtain ⟨x, hx, hxm⟩ : ∃ x : Int, w1.cell? ⟨g, k, none⟩ = some (.int .i64 x) ∧ x ∈ l := ⟨l[k], by simp [World.cell?, hb, hkl], List.getElem_mem hkl⟩
  clear hb
  have HXm := Lib.hid hxm; clear hxm
  go_wp2
  go_ret
  exact ⟨x, rfl, HXm.out, hc1, ho1⟩
/-- A number of 64 bits. -/
def DrawnW (B : Nat) (w : World) (r : Ending) (w' : World) : Prop := ∃ x : Int, r = .returned (.int .i64 x) ∧ W64 x ∧ Cur w' B ∧ Oth B w w'
theorem w64_lim {u : Int} (h0 : -9223372036854775808 ≤ u) (h1 : u ≤ 9223372036854775807) : W64 u := by
  unfold W64; simp [Lit.wf, IntKind.min, IntKind.max, IntKind.signed, IntKind.bits]; omega
set_option maxRecDepth 100000 in
set_option maxHeartbeats 2000000 in
theorem l4Number_w (B : Nat) (w : World) (hc : Cur w B) : Calls Try.prog 61 #[.pointer (some ⟨B, 0, none⟩)] w (DrawnW B w) := by
  have hB := hc.lt
  go_enter Try.func61, Try.ntmps61
  go_wp2_with fail
  refine (l1Once_any B 4 w hc (by omega) (by omega)).mono ?_
  rintro r w1 ⟨b, rfl, hc1, ho1⟩
  have hz1 := ho1.size
  cases b
  · go_wp2_with fail
    refine (l1Below_any B 20 w1 hc1 (by omega) (by omega)).mono ?_
    rintro r w2 ⟨x, rfl, hx0, hx1, hc2, ho2⟩
    go_wp2
    go_ret
    exact ⟨_, rfl, w64_lim (by omega) (by omega), hc2, ho1.trans ho2⟩
  · go_wp2_with fail
    have hu := (Up.step (Up.refl hc) hc1 ho1).alloc hB
    refine (l1PickInt_in B w1.heap.size 10 [0, 1, -1, 18999, 19000, 19999, 20000, 536870911, 536870912, 9223372036854775807] _ _ (hu _).cur (by omega) (heap_alloc_new _ _) (by decide) (by decide)).mono ?_
    rintro r w2 ⟨x, rfl, hxm, hc2, ho2⟩
    have hw : W64 x := by
      simp only [List.mem_cons, List.not_mem_nil, or_false] at hxm
      rcases hxm with rfl | rfl | rfl | rfl | rfl | rfl | rfl | rfl | rfl | rfl <;> exact w64_lim (by omega) (by omega)
    clear hxm
    have HW := Lib.hid hw; clear hw
    go_wp2
    go_ret
    exact ⟨x, rfl, HW.out, hc2, (hu _).oth.trans ho2⟩
end Go.Proofs.Ytbgejldjgkihaaa

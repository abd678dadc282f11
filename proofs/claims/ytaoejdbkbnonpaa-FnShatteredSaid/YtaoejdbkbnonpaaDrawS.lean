/- What DrawShattered draws. -/
import Derived.Test.YtaoejdbkbnonpaaDrawL
import Derived.Deep.RegionHeld3
namespace Go.Proofs.Ytaoejdbkbnonpaa
set_option linter.unusedSimpArgs false
set_option linter.unusedVariables false
open Go.ChangeShapes Go.WideShapes Go.ChangeAt Go.RowKit Go.BigFrame

def DrawnIn (B : Nat) (l : List Int) (w : World) (r : Ending) (w' : World) : Prop := ∃ x : Int, r = .returned (.int .i64 x) ∧ x ∈ l ∧ Cur w' B ∧ Oth B w w'
theorem l1PickInt_in (B g cap : Nat) (l : List Int) (t : TypeId) (w : World) (hc : Cur w B) (hg : g ≠ B) (h : w.heap[g]? = some (.cells (l.map (Value.int .i64)).toArray t (0, 0))) (h0 : 0 < l.length) (h1 : l.length ≤ 256) :
    Calls Try.prog 67 #[.pointer (some ⟨B, 0, none⟩), .slice (some ⟨g, 0, none⟩) l.length cap] w (DrawnIn B l w) := by
  obtain ⟨n, hn⟩ : ∃ n, n = l.length := ⟨_, rfl⟩
  rw [← hn] at h0 h1 ⊢
  have HN := Lib.hid hn; clear hn
  have HH := Lib.hid h; clear h
  go_enter Try.func67, Try.ntmps67
  go_wp2_with fail
  refine (l1Below_any B n w hc (by omega) (by omega)).mono ?_
  rintro r w1 ⟨x, rfl, hx0, hx1, hc1, ho1⟩
  obtain ⟨k, rfl⟩ := Int.eq_ofNat_of_zero_le hx0
  have hgl : g < w.heap.size := box_lt HH.out
  have hb := (ho1.block hgl hg).trans HH.out
  have hk : k < l.length := by have := HN.out; omega
  obtain ⟨x, hx⟩ : ∃ x, x = l[k] := ⟨_, rfl⟩
  have hcx : w1.cell? ⟨g, k, none⟩ = some (.int .i64 x) := by simp [World.cell?, hb, hk, hx]
  have HM := Lib.hid (show x ∈ l from hx ▸ List.getElem_mem hk)
  clear hb hx
  go_wp2
  go_ret
  exact ⟨x, rfl, HM.out, hc1, ho1⟩
def DrawnSh (w : World) (r : Ending) (w' : World) : Prop := ∃ (a : Option Addr) (cap : Nat) (xs : List Ev) (n : Int), r = .returned (.tuple #[.slice a xs.length cap, .int .i64 n]) ∧ xs.length ≤ 8 ∧ textSum xs ≤ 6 * xs.length ∧ n ≤ 9223372036854775807 ∧ Evs w' a xs ∧ (a = none → xs.length = 0 ∧ cap = 0) ∧ Below w.heap.size w w'
set_option maxRecDepth 100000 in
set_option maxHeartbeats 2000000 in
theorem drawShattered_any (a : Option Addr) (cap n : Nat) (w : World) (h : Code w a n) (hn : n ≤ 1048576) :
    Calls Try.prog 15 #[.slice a n cap] w (DrawnSh w) := by
  go_enter Try.func15, Try.ntmps15
  go_wp2_with fail
  refine (l1New_any a cap n w h hn).mono ?_
  rintro r w1 ⟨B, rfl, hB, hc, hb1⟩
  have hBl := hc.lt
  go_wp2_with fail
  refine (l11List_any B w1 hc).mono ?_
  rintro r w2 ⟨a2, cap2, xs, rfl, hx, ht, ho2, hu⟩
  have HO2 := Lib.hid ho2; clear ho2
  have hz2 := hu.oth.size
  go_wp2_with fail
  have hua := hu.alloc hBl (.cells #[.int .i64 1, .int .i64 2, .int .i64 3, .int .i64 5, .int .i64 0, .int .i64 (-1), .int .i64 9223372036854775807] 3)
  refine (l1PickInt_in B w2.heap.size 7 [1, 2, 3, 5, 0, -1, 9223372036854775807] 3 _ hua.cur (by omega) (heap_nth0 w2 _) (by decide) (by decide)).mono ?_
  rintro r w3 ⟨y, rfl, hy, hc3, ho3⟩
  have hym : y ≤ 9223372036854775807 := by simp only [List.mem_cons, List.not_mem_nil, or_false] at hy; omega
  have hu3 := hua.step hc3 ho3
  have hT := hb1.trans (hu3.oth.below hB hBl)
  have HO3 := Lib.hid (owns_oth (HO2.out.alloc _) ho3 hBl)
  have hE : Evs w3 (some ⟨a2, 0, none⟩) xs := evs_of_own HO3.out rfl
  clear hy hua hc3 ho3
  go_wp2
  go_ret2
  exact ⟨some ⟨a2, 0, none⟩, cap2, xs, y, rfl, hx, ht, hym, hE, own_nil HO2.out, hT⟩
end Go.Proofs.Ytaoejdbkbnonpaa

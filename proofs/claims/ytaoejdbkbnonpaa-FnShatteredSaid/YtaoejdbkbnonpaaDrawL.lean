/- Draws of lists of events. -/
import Derived.Test.YtaoejdbkbnonpaaDrawE
import Derived.Test.YtaoejdbkbnonpaaMerge
namespace Go.Proofs.Ytaoejdbkbnonpaa
set_option linter.unusedSimpArgs false
set_option linter.unusedVariables false
open Go.ChangeShapes Go.WideShapes Go.ChangeAt Go.RowKit Go.BigFrame

theorem own_nil {w : World} {base n cap size : Nat} {a : Option Addr} {t : TypeId} {L : List Value} (h : w.ownsRow base t size (.slice a n cap) n L) : a = none → n = 0 ∧ cap = 0 := by
  rintro rfl
  rcases h.2 with ⟨e, h0⟩ | ⟨g, cap', cur, e, _⟩
  · simp at e; omega
  · simp at e
theorem owned_some {w : World} {base n size : Nat} {t : TypeId} {v : Value} {L : List Value} (h : w.ownsRow base t size v n L) (hv : v ≠ .slice none 0 0) : ∃ g cap, v = .slice (some ⟨g, 0, none⟩) n cap ∧ w.ownsRow base t size (.slice (some ⟨g, 0, none⟩) n cap) n L := by
  have h' := h
  rcases h'.2 with ⟨e, h0⟩ | ⟨g, cap, cur, rfl, _⟩
  · exact absurd e hv
  · exact ⟨g, cap, rfl, h⟩
def DrawnL (B : Nat) (w : World) (r : Ending) (w' : World) : Prop := ∃ (g cap : Nat) (xs : List Ev), r = .returned (.slice (some ⟨g, 0, none⟩) xs.length cap) ∧ xs.length ≤ 8 ∧ textSum xs ≤ 6 * xs.length ∧ w'.ownsRow w.heap.size 78 7 (.slice (some ⟨g, 0, none⟩) xs.length cap) xs.length (xs.flatMap Ev.cs) ∧ Up B w w'
set_option maxRecDepth 100000 in
set_option maxHeartbeats 2000000 in
theorem l11List_any (B : Nat) (w : World) (hc : Cur w B) : Calls Try.prog 66 #[.pointer (some ⟨B, 0, none⟩)] w (DrawnL B w) := by
  have hB := hc.lt
  obtain ⟨i0, hi, hz0, hz1, hz2⟩ := info_parts info_Event
  go_enter Try.func66, Try.ntmps66
  go_wp2_with fail
  have hu0 := (Up.refl hc).alloc hB (.cells #[] 78)
  refine (l1Below_any B 9 _ hu0.cur (by omega) (by omega)).mono ?_
  rintro r w1 ⟨x, rfl, hx0, hx1, hc1, ho1⟩
  obtain ⟨n, rfl⟩ := Int.eq_ofNat_of_zero_le hx0
  have hn : n ≤ 8 := by omega
  have hu1 := hu0.step hc1 ho1
  have HO1 := Lib.hid (owns_oth (show (w.alloc (.cells #[] 78)).ownsRow w.heap.size 78 7 (.slice (some ⟨w.heap.size, 0, none⟩) 0 0) 0 (([] : List Ev).flatMap Ev.cs) from ⟨by simp, .inr ⟨w.heap.size, 0, #[], rfl, Nat.le_refl _, heap_nth0 w _, Nat.le_refl _, Nat.zero_le _, rfl, rfl⟩⟩) ho1 hB)
  clear hu0 hc1 ho1 hx0 hx1
  go_wp2_with fail
  go_loopw [3, 5] (fun v i wr => ∃ (k : Nat) (xs : List Ev), k ≤ n ∧ i = .int .i64 k ∧ Hid (xs.length = k ∧ textSum xs ≤ 6 * k) ∧ Hid (v ≠ .slice none 0 0) ∧ wr.ownsRow w.heap.size 78 7 v k (xs.flatMap Ev.cs) ∧ Up B w wr) (fun _ i _ => n - (intOf i).toNat)
  case atStart => exact ⟨0, [], Nat.zero_le _, rfl, Lib.hid ⟨rfl, by simp [textSum]⟩, Lib.hid (by simp), HO1.out, hu1⟩
  case round =>
    obtain ⟨k, xs, hk, rfl, HL, HNV, ho, hu⟩ := hrel
    have HO := Lib.hid ho; clear ho
    have hsz := hu.oth.size
    by_cases hlt : k < n
    · go_wp2_with fail
      refine (l1Once_any B 2 wr hu.cur (by omega) (by omega)).mono ?_
      rintro r w4 ⟨b, rfl, hc4, ho4⟩
      have hu4 := hu.step hc4 ho4
      have HO4 := Lib.hid (owns_oth HO.out ho4 hB)
      have hsz4 := hu4.oth.size
      clear HO hc4 ho4
      cases b
      · go_wp2_with fail
        refine (l10Right_any B _ hu4.cur).mono ?_
        rintro r w5 ⟨⟨ek, ef, eb, el, et, ec, ea⟩, rfl, ht, hu5⟩
        simp only at ht
        have huT := hu4.step hu5.cur hu5.oth
        have HO5 := Lib.hid (owns_oth HO4.out hu5.oth hB)
        have hsz5 := huT.oth.size
        clear HO4 hu5
        go_wp2_with (first | (at_builtin; refine wpList_append_own _ rfl _ _ 24 rfl w.heap.size 78 i0 _ 7 64 Try.underlying24 hi hz0 hz1 hz2 rfl (by decide) _ _ _ rfl (HO5.out.alloc _) ⟨w5.heap.size, 0, none⟩ 1 1 (⟨ek, ef, eb, el, et, ec, ea⟩ : Ev).cs rfl rfl (box_cs (⟨ek, ef, eb, el, et, ec, ea⟩ : Ev) _ _ _ (by simp)) (cs_one (⟨ek, ef, eb, el, et, ec, ea⟩ : Ev)) (by unfold maxLen; omega) (by omega) (by first | omega | (simp; omega)) ?_; intro v1 w3 hown1 hgrow1 hnn1; have hu3 := (huT.alloc hB _).grown hB hgrow1 (fun g hg => (HO5.out.lt g hg).1); clear hgrow1; have HN1 := Lib.hid (show v1 ≠ .slice none 0 0 from fun hq => HNV.out (hnn1.1 hq).1); clear hnn1))
        go_roundw
        case rel => exact ⟨k + 1, xs ++ [⟨ek, ef, eb, el, et, ec, ea⟩], by omega, by go_num, Lib.hid ⟨by rw [List.length_append, HL.out.1]; rfl, by have := HL.out.2; rw [textSum_append]; simp only [textSum, List.map_cons, List.map_nil, List.sum_cons, List.sum_nil] at this ⊢; omega⟩, HN1, by rw [ev_snoc]; exact hown1, hu3⟩
        case measure => simp [intOf]; omega
      · go_wp2_with fail
        have hua := hu4.alloc hB (.cells #[.string ⟨#[97]⟩, .string ⟨#[98, 99]⟩, .string ⟨#[100, 101, 102]⟩, .string ⟨#[]⟩, .string ⟨#[103, 104, 105, 106, 107, 108]⟩] 9)
        refine (l1Pick_any B w4.heap.size 5 [⟨#[97]⟩, ⟨#[98, 99]⟩, ⟨#[100, 101, 102]⟩, ⟨#[]⟩, ⟨#[103, 104, 105, 106, 107, 108]⟩] 9 _ hua.cur (by omega) (heap_nth0 w4 _) (by decide) (by decide)).mono ?_
        rintro r w5 ⟨y, rfl, hy, hc5, ho5⟩
        have ht : y.size ≤ 6 := by simp only [List.mem_cons, List.not_mem_nil, or_false] at hy; rcases hy with rfl | rfl | rfl | rfl | rfl <;> decide
        clear hy
        have huT := hua.step hc5 ho5
        have HO5 := Lib.hid (owns_oth (HO4.out.alloc _) ho5 hB)
        have hsz5 := huT.oth.size
        clear HO4 hc5 ho5 hua
        go_wp2_with (first | (at_builtin; refine wpList_append_own _ rfl _ _ 24 rfl w.heap.size 78 i0 _ 7 64 Try.underlying24 hi hz0 hz1 hz2 rfl (by decide) _ _ _ rfl (HO5.out.alloc _) ⟨w5.heap.size, 0, none⟩ 1 1 (⟨4, 0, 0, 0, y, 0, 0⟩ : Ev).cs rfl rfl (box_cs (⟨4, 0, 0, 0, y, 0, 0⟩ : Ev) _ _ _ (by simp)) (cs_one (⟨4, 0, 0, 0, y, 0, 0⟩ : Ev)) (by unfold maxLen; omega) (by omega) (by first | omega | (simp; omega)) ?_; intro v1 w3 hown1 hgrow1 hnn1; have hu3 := (huT.alloc hB _).grown hB hgrow1 (fun g hg => (HO5.out.lt g hg).1); clear hgrow1; have HN1 := Lib.hid (show v1 ≠ .slice none 0 0 from fun hq => HNV.out (hnn1.1 hq).1); clear hnn1))
        go_roundw
        case rel => exact ⟨k + 1, xs ++ [⟨4, 0, 0, 0, y, 0, 0⟩], by omega, by go_num, Lib.hid ⟨by rw [List.length_append, HL.out.1]; rfl, by have := HL.out.2; rw [textSum_append]; simp only [textSum, List.map_cons, List.map_nil, List.sum_cons, List.sum_nil] at this ⊢; omega⟩, HN1, by rw [ev_snoc]; exact hown1, hu3⟩
        case measure => simp [intOf]; omega
    · have hkn : k = n := by omega
      subst hkn
      obtain ⟨g5, cap5, rfl, h5⟩ := owned_some HO.out HNV.out
      have HI := Lib.hid h5; clear h5 HNV
      go_wp2
      go_ret
      exact ⟨g5, cap5, xs, by rw [HL.out.1]; rfl, by rw [HL.out.1]; omega, by rw [HL.out.1]; exact HL.out.2, by rw [HL.out.1]; exact HI.out, hu⟩
end Go.Proofs.Ytaoejdbkbnonpaa

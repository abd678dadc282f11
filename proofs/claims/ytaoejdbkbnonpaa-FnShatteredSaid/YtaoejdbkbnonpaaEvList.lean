/- Contracts of the functions that measure lists of events. -/
import Derived.Test.YtaoejdbkbnonpaaSl
namespace Go.Proofs.Ytaoejdbkbnonpaa
set_option linter.unusedSimpArgs false
set_option linter.unusedVariables false
open Go.ChangeShapes Go.WideShapes Go.ChangeAt Go.RowKit Go.BigFrame

theorem text_le {xs : List Ev} {e : Ev} (h : e ∈ xs) : e.text.size ≤ textSum xs := by
  induction xs with
  | nil => simp at h
  | cons x xs ih =>
    simp only [textSum, List.map_cons, List.sum_cons] at ih ⊢
    rcases List.mem_cons.1 h with rfl | h
    · omega
    · have := ih h; omega
theorem foldl_take {β : Type} (f : β → Ev → β) (z : β) {xs : List Ev} {k : Nat} {e : Ev} (he : xs[k]? = some e) : (xs.take (k + 1)).foldl f z = f ((xs.take k).foldl f z) e := by
  rw [List.take_add_one, he, List.foldl_append]; rfl
def partB (xs : List Ev) : Nat := xs.foldl (fun s e => if e.kind = 4 then s + e.text.size else s) 0
theorem partB_yes {xs : List Ev} {k : Nat} {e : Ev} (he : xs[k]? = some e) (h : e.kind = 4) : partB (xs.take (k + 1)) = partB (xs.take k) + e.text.size := by
  simp only [partB]; rw [foldl_take _ _ he, if_pos h]
theorem partB_no {xs : List Ev} {k : Nat} {e : Ev} (he : xs[k]? = some e) (h : ¬ e.kind = 4) : partB (xs.take (k + 1)) = partB (xs.take k) := by
  simp only [partB]; rw [foldl_take _ _ he, if_neg h]
theorem partB_from (xs : List Ev) : ∀ s, xs.foldl (fun s e => if e.kind = 4 then s + e.text.size else s) s ≤ s + textSum xs := by
  induction xs with
  | nil => intro s; simp [textSum]
  | cons x xs ih =>
    intro s
    simp only [List.foldl_cons, textSum, List.map_cons, List.sum_cons] at ih ⊢
    refine Nat.le_trans (ih _) ?_
    split <;> omega
theorem partB_le (xs : List Ev) : partB xs ≤ textSum xs := by have := partB_from xs 0; simpa [partB] using this
def longest (xs : List Ev) : Nat := xs.foldl (fun s e => if e.kind = 4 then max s e.text.size else s) 0
theorem longest_yes {xs : List Ev} {k : Nat} {e : Ev} (he : xs[k]? = some e) (h : e.kind = 4) : longest (xs.take (k + 1)) = max (longest (xs.take k)) e.text.size := by
  simp only [longest]; rw [foldl_take _ _ he, if_pos h]
theorem longest_no {xs : List Ev} {k : Nat} {e : Ev} (he : xs[k]? = some e) (h : ¬ e.kind = 4) : longest (xs.take (k + 1)) = longest (xs.take k) := by
  simp only [longest]; rw [foldl_take _ _ he, if_neg h]
theorem longest_from (xs : List Ev) : ∀ s, xs.foldl (fun s e => if e.kind = 4 then max s e.text.size else s) s ≤ s + textSum xs := by
  induction xs with
  | nil => intro s; simp [textSum]
  | cons x xs ih =>
    intro s
    simp only [List.foldl_cons, textSum, List.map_cons, List.sum_cons] at ih ⊢
    refine Nat.le_trans (ih _) ?_
    split <;> omega
theorem longest_le (xs : List Ev) : longest xs ≤ textSum xs := by have := longest_from xs 0; simpa [longest] using this
def maxI (x y : Int) : Int := if x < y then y else x
theorem maxI_gt {x y : Int} (h : x > y) : x = maxI x y := by simp only [maxI]; split <;> omega
theorem maxI_le {x y : Int} (h : ¬ x > y) : y = maxI x y := by simp only [maxI]; split <;> omega
theorem max_int (a b : Nat) : maxI a b = ((max a b : Nat) : Int) := by simp only [maxI]; split <;> omega
set_option maxHeartbeats 2000000 in
theorem specSameEvents_any (a a' : Option Addr) (cap cap' n n' : Nat) (xs ys : List Ev) (w : World) (h : Evs w a xs) (h' : Evs w a' ys) (hx : xs.length = n) (hy : ys.length = n') (hn : n ≤ 1048576) (hn' : n' ≤ 1048576) :
    Calls Try.prog 18 #[.slice a n cap, .slice a' n' cap'] w fun r w' => r = .returned (.bool (decide (xs = ys))) ∧ Below w.heap.size w w' := by
  have HX := Lib.hid hx; clear hx
  have HY := Lib.hid hy; clear hy
  by_cases hl : n = n'
  · subst hl
    go_enter Try.func18, Try.ntmps18
    go_wp2
    go_loopw [4, 5] (fun t i wr => ∃ k : Nat, k ≤ n ∧ i = .int .i64 k ∧ t = .bool false ∧ Hid (xs.take k = ys.take k) ∧ Below w.heap.size w wr) (fun _ i _ => n - (intOf i).toNat)
    case atStart => exact ⟨0, Nat.zero_le _, rfl, rfl, Lib.hid rfl, Below.refl _ _⟩
    case round =>
      obtain ⟨k, hk, rfl, rfl, HT, hb⟩ := hrel
      have hz := hb.size
      by_cases hlt : k < n
      · obtain ⟨e, he, _⟩ := at_lt (xs := xs) (k := k) (by rw [HX.out]; exact hlt)
        obtain ⟨f, hf, _⟩ := at_lt (xs := ys) (k := k) (by rw [HY.out]; exact hlt)
        have HE := Lib.hid he
        have HF := Lib.hid hf
        obtain ⟨b, off, rfl, hlb, c0, c1, c2, c3, c4, c5, c6⟩ := Evs.at (h.below hb (Nat.le_refl _)) he
        obtain ⟨b', off', rfl, hlb', d0, d1, d2, d3, d4, d5, d6⟩ := Evs.at (h'.below hb (Nat.le_refl _)) hf
        clear he hf
        by_cases hef : e = f
        · have hd : sameEv e f = true := by simp [sameEv, hef]
          have HD := Lib.hid hef; clear hef
          have HT2 := Lib.hid (show xs.take (k + 1) = ys.take (k + 1) by rw [List.take_add_one, List.take_add_one, HT.out, HE.out, HF.out, HD.out])
          have hne := run_neq_ev
          go_wp2_with fail
          (refine wp_region_ext (by kernel_rfl) (by kernel_rfl) ?_; (repeat (go_big_quiet_step (fail))); refine wpQuiet_nil ?_; intro w1 hb1; obtain ⟨hc1, hf1⟩ := bcell hb1; have hz1 := hb1.size; (try simp only [World.size_alloc, World.size_setCell, World.size_drew] at hz1))
          go_wp2
          go_roundw
          case rel => exact ⟨k + 1, by omega, by go_num, rfl, HT2, by ((repeat (first | (with_reducible exact Below.refl _ _) | (with_reducible assumption) | (with_reducible refine Below.alloc ?_ ?_ _) | (with_reducible refine Below.setCell ?_ ?_ _) | (with_reducible refine Below.drew ?_) | (with_reducible refine below_setRow ?_ ?_ _) | (refine Below.trans ?_ (Below.mono (by assumption) ?_)))); all_goals (first | omega | (simp; done) | (simp; omega)))⟩
          case measure => simp [intOf]; omega
        · have hd : sameEv e f = false := by simp [sameEv, hef]
          have HS := Lib.hid (show decide (xs = ys) = false by
            simp only [decide_eq_false_iff_not]; intro hxy; subst hxy; apply hef; have h1 := HE.out; rw [HF.out] at h1; simpa using h1.symm)
          clear hef
          have hne := run_neq_ev
          go_wp2_with fail
          (refine wp_region_ext (by kernel_rfl) (by kernel_rfl) ?_; (repeat (go_big_quiet_step (fail))); refine wpQuiet_nil ?_; intro w1 hb1; obtain ⟨hc1, hf1⟩ := bcell hb1; have hz1 := hb1.size; (try simp only [World.size_alloc, World.size_setCell, World.size_drew] at hz1))
          go_wp2
          go_ret
          exact ⟨ret_bool HS.out.symm, by ((repeat (first | (with_reducible exact Below.refl _ _) | (with_reducible assumption) | (with_reducible refine Below.alloc ?_ ?_ _) | (with_reducible refine Below.setCell ?_ ?_ _) | (with_reducible refine Below.drew ?_) | (with_reducible refine below_setRow ?_ ?_ _) | (refine Below.trans ?_ (Below.mono (by assumption) ?_)))); all_goals (first | omega | (simp; done) | (simp; omega)))⟩
      · have HS := Lib.hid (show decide (xs = ys) = true by
          have := HT.out; rw [List.take_of_length_le (by rw [HX.out]; omega), List.take_of_length_le (by rw [HY.out]; omega)] at this; simp [this])
        go_wp2
        go_ret
        exact ⟨ret_bool HS.out.symm, hb⟩
  · have HS := Lib.hid (show decide (xs = ys) = false by
      simp only [decide_eq_false_iff_not]; intro hxy; subst hxy; exact hl (HX.out.symm.trans HY.out))
    have hl' : ((n : Int) != (n' : Int)) = true := by simp; omega
    go_enter Try.func18, Try.ntmps18
    go_wp2
    go_ret
    exact ⟨ret_bool HS.out.symm, Below.refl _ _⟩
end Go.Proofs.Ytaoejdbkbnonpaa

/- Contracts of the functions that handle one field by value. -/
import Derived.Test.YtigmdaiecdoimaaGreatEv
namespace Go.Proofs.YtigmdaiecdoimaaGreat
set_option linter.unusedSimpArgs false
set_option linter.unusedVariables false
open Go.ChangeShapes Go.WideShapes Go.ChangeAt Go.RowKit Go.BigFrame

theorem toField_any (e : Fld) (w : World) :
    Calls Tryz.prog 40 #[e.val] w fun r w' => r = .returned e.val ∧ Below w.heap.size w w' := by
  go_enter Tryz.func40, Tryz.ntmps40
  go_wp2
  exact bodyPost_ret (by simp [results, Tryz.results40, go_sem]; try rfl) rfl ⟨rfl, by ((repeat (first | (with_reducible exact Below.refl _ _) | (with_reducible assumption) | (with_reducible refine Below.alloc ?_ ?_ _) | (with_reducible refine Below.setCell ?_ ?_ _) | (with_reducible refine Below.drew ?_) | (with_reducible refine below_setRow ?_ ?_ _) | (refine Below.trans ?_ (Below.mono (by assumption) ?_)))); all_goals (first | omega | (simp; done) | (simp; omega)))⟩
theorem eqField_any (e f : Fld) (w : World) :
    Calls Tryz.prog 49 #[e.val, f.val] w fun r w' => r = .returned (.bool (decide (e = f))) ∧ Below w.heap.size w w' := by
  go_enter Tryz.func49, Tryz.ntmps49
  go_wp2
  all_goals
    go_ret
    exact ⟨ret_bool (by cases e; cases f; simp_all), by ((repeat (first | (with_reducible exact Below.refl _ _) | (with_reducible assumption) | (with_reducible refine Below.alloc ?_ ?_ _) | (with_reducible refine Below.setCell ?_ ?_ _) | (with_reducible refine Below.drew ?_) | (with_reducible refine below_setRow ?_ ?_ _) | (refine Below.trans ?_ (Below.mono (by assumption) ?_)))); all_goals (first | omega | (simp; done) | (simp; omega)))⟩
theorem specNumeric_any (x : Int) (w : World) : Calls Tryz.prog 102 #[.int .i64 x] w fun r w' => r = .returned (.bool (inB x 1 5)) ∧ w = w' := by
  go_enter Tryz.func102, Tryz.ntmps102
  go_wp2_with (first | (go_at_call 72; refine (l1In_any _ _ _ _).mono ?_; rintro r w1 ⟨rfl, rfl⟩))
  go_ret
  exact ⟨rfl, rfl⟩
theorem implNumeric_any (x : Int) (w : World) : Calls Tryz.prog 130 #[.int .i64 x] w fun r w' => r = .returned (.bool (inB x 1 5)) ∧ w = w' := by
  go_enter Tryz.func130, Tryz.ntmps130
  go_wp2_with (first | (go_at_call 111; refine (within_any _ _ _ _).mono ?_; rintro r w1 ⟨rfl, rfl⟩))
  go_ret
  exact ⟨rfl, rfl⟩
/-- May the values of a field be packed? -/
def runsF (f : Fld) : Bool := f.rep && inB f.kind 1 5
theorem specRuns_any (f : Fld) (w : World) : Calls Tryz.prog 76 #[f.val] w fun r w' => r = .returned (.bool (runsF f)) ∧ Below w.heap.size w w' := by
  obtain ⟨n, k, rep, p, m⟩ := f
  cases rep
  all_goals
    go_enter Tryz.func76, Tryz.ntmps76
    go_wp2_with (first | (go_at_call 102; refine (specNumeric_any _ _).mono ?_; rintro r w1 ⟨rfl, rfl⟩))
    go_ret
    exact ⟨ret_bool (by simp [runsF]), by ((repeat (first | (with_reducible exact Below.refl _ _) | (with_reducible assumption) | (with_reducible refine Below.alloc ?_ ?_ _) | (with_reducible refine Below.setCell ?_ ?_ _) | (with_reducible refine Below.drew ?_) | (with_reducible refine below_setRow ?_ ?_ _) | (refine Below.trans ?_ (Below.mono (by assumption) ?_)))); all_goals (first | omega | (simp; done) | (simp; omega)))⟩
theorem implRuns_any (f : Fld) (w : World) : Calls Tryz.prog 113 #[f.val] w fun r w' => r = .returned (.bool (runsF f)) ∧ Below w.heap.size w w' := by
  obtain ⟨n, k, rep, p, m⟩ := f
  cases rep
  all_goals
    go_enter Tryz.func113, Tryz.ntmps113
    go_wp2_with (first | (go_at_call 130; refine (implNumeric_any _ _).mono ?_; rintro r w1 ⟨rfl, rfl⟩))
    go_ret
    exact ⟨ret_bool (by simp [runsF]), by ((repeat (first | (with_reducible exact Below.refl _ _) | (with_reducible assumption) | (with_reducible refine Below.alloc ?_ ?_ _) | (with_reducible refine Below.setCell ?_ ?_ _) | (with_reducible refine Below.drew ?_) | (with_reducible refine below_setRow ?_ ?_ _) | (refine Below.trans ?_ (Below.mono (by assumption) ?_)))); all_goals (first | omega | (simp; done) | (simp; omega)))⟩
/-- The event of a value: booleans are told as 0 or 1. -/
def numBits (f : Fld) (u : Int) : Int := if f.kind = 3 ∧ 1 < u then 1 else u
def numEv (f : Fld) (u : Int) : Ev := ⟨2, f.number, numBits f u, 0, ⟨#[]⟩, 0, 0⟩
theorem specNumEvent_any (f : Fld) (u : Int) (w : World) : Calls Tryz.prog 182 #[f.val, .int .u64 u] w fun r w' => r = .returned (numEv f u).val ∧ Below w.heap.size w w' := by
  obtain ⟨n, k, rep, p, m⟩ := f
  by_cases h3 : (k == 3) = true
  · have H3 : k = 3 := by simpa using h3
    by_cases hu : 1 < u
    · have H := Lib.hid (show numBits ⟨n, k, rep, p, m⟩ u = 1 by simp only [numBits]; rw [if_pos ⟨H3, hu⟩])
      clear H3
      go_enter Tryz.func182, Tryz.ntmps182
      go_wp2
      exact bodyPost_ret (v := (numEv ⟨n, k, rep, p, m⟩ u).val) (by simp [results, Tryz.results182, go_sem, numEv, H.out]) rfl ⟨rfl, by ((repeat (first | (with_reducible exact Below.refl _ _) | (with_reducible assumption) | (with_reducible refine Below.alloc ?_ ?_ _) | (with_reducible refine Below.setCell ?_ ?_ _) | (with_reducible refine Below.drew ?_) | (with_reducible refine below_setRow ?_ ?_ _) | (refine Below.trans ?_ (Below.mono (by assumption) ?_)))); all_goals (first | omega | (simp; done) | (simp; omega)))⟩
    · have H := Lib.hid (show numBits ⟨n, k, rep, p, m⟩ u = u by simp only [numBits]; rw [if_neg (by omega)])
      clear H3
      go_enter Tryz.func182, Tryz.ntmps182
      go_wp2
      exact bodyPost_ret (v := (numEv ⟨n, k, rep, p, m⟩ u).val) (by simp [results, Tryz.results182, go_sem, numEv, H.out]) rfl ⟨rfl, by ((repeat (first | (with_reducible exact Below.refl _ _) | (with_reducible assumption) | (with_reducible refine Below.alloc ?_ ?_ _) | (with_reducible refine Below.setCell ?_ ?_ _) | (with_reducible refine Below.drew ?_) | (with_reducible refine below_setRow ?_ ?_ _) | (refine Below.trans ?_ (Below.mono (by assumption) ?_)))); all_goals (first | omega | (simp; done) | (simp; omega)))⟩
  · have h3' : (k == 3) = false := by simpa using h3
    have H := Lib.hid (show numBits ⟨n, k, rep, p, m⟩ u = u by simp only [numBits]; rw [if_neg (by simp at h3'; omega)])
    clear h3
    go_enter Tryz.func182, Tryz.ntmps182
    go_wp2
    exact bodyPost_ret (v := (numEv ⟨n, k, rep, p, m⟩ u).val) (by simp [results, Tryz.results182, go_sem, numEv, H.out]) rfl ⟨rfl, by ((repeat (first | (with_reducible exact Below.refl _ _) | (with_reducible assumption) | (with_reducible refine Below.alloc ?_ ?_ _) | (with_reducible refine Below.setCell ?_ ?_ _) | (with_reducible refine Below.drew ?_) | (with_reducible refine below_setRow ?_ ?_ _) | (refine Below.trans ?_ (Below.mono (by assumption) ?_)))); all_goals (first | omega | (simp; done) | (simp; omega)))⟩
end Go.Proofs.YtigmdaiecdoimaaGreat

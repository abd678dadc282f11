/- Contracts of the functions that handle one field by value. -/
import Derived.Test.YtejmmgbbkagijaaGreatEv
namespace Go.Proofs.YtejmmgbbkagijaaGreat
set_option linter.unusedSimpArgs false
set_option linter.unusedVariables false
open Go.ChangeShapes Go.WideShapes Go.ChangeAt Go.RowKit Go.BigFrame

theorem toField_any (e : Fld) (w : World) :
    Calls Tryz.prog 26 #[e.val] w fun r w' => r = .returned e.val ∧ Below w.heap.size w w' := by
  go_enter Tryz.func26, Tryz.ntmps26
  go_wp2
  exact bodyPost_ret (by simp [results, Tryz.results26, go_sem]; try rfl) rfl ⟨rfl, by ((repeat (first | (with_reducible exact Below.refl _ _) | (with_reducible assumption) | (with_reducible refine Below.alloc ?_ ?_ _) | (with_reducible refine Below.setCell ?_ ?_ _) | (with_reducible refine Below.drew ?_) | (with_reducible refine below_setRow ?_ ?_ _) | (refine Below.trans ?_ (Below.mono (by assumption) ?_)))); all_goals (first | omega | (simp; done) | (simp; omega)))⟩
theorem eqField_any (e f : Fld) (w : World) :
    Calls Tryz.prog 35 #[e.val, f.val] w fun r w' => r = .returned (.bool (decide (e = f))) ∧ Below w.heap.size w w' := by
  go_enter Tryz.func35, Tryz.ntmps35
  go_wp2
  all_goals
    go_ret
    exact ⟨ret_bool (by cases e; cases f; simp_all), by ((repeat (first | (with_reducible exact Below.refl _ _) | (with_reducible assumption) | (with_reducible refine Below.alloc ?_ ?_ _) | (with_reducible refine Below.setCell ?_ ?_ _) | (with_reducible refine Below.drew ?_) | (with_reducible refine below_setRow ?_ ?_ _) | (refine Below.trans ?_ (Below.mono (by assumption) ?_)))); all_goals (first | omega | (simp; done) | (simp; omega)))⟩
theorem specNumeric_any (x : Int) (w : World) : Calls Tryz.prog 86 #[.int .i64 x] w fun r w' => r = .returned (.bool (inB x 1 5)) ∧ w = w' := by
  go_enter Tryz.func86, Tryz.ntmps86
  go_wp2_with (first | (go_at_call 49; refine (l1In_any _ _ _ _).mono ?_; rintro r w1 ⟨rfl, rfl⟩))
  go_ret
  exact ⟨rfl, rfl⟩
theorem implNumeric_any (x : Int) (w : World) : Calls Tryz.prog 114 #[.int .i64 x] w fun r w' => r = .returned (.bool (inB x 1 5)) ∧ w = w' := by
  go_enter Tryz.func114, Tryz.ntmps114
  go_wp2_with (first | (go_at_call 67; refine (within_any _ _ _ _).mono ?_; rintro r w1 ⟨rfl, rfl⟩))
  go_ret
  exact ⟨rfl, rfl⟩
/-- May the values of a field be packed? -/
def runsF (f : Fld) : Bool := f.rep && inB f.kind 1 5
theorem specRuns_any (f : Fld) (w : World) : Calls Tryz.prog 59 #[f.val] w fun r w' => r = .returned (.bool (runsF f)) ∧ Below w.heap.size w w' := by
  obtain ⟨n, k, rep, p, m⟩ := f
  cases rep
  all_goals
    go_enter Tryz.func59, Tryz.ntmps59
    go_wp2_with (first | (go_at_call 86; refine (specNumeric_any _ _).mono ?_; rintro r w1 ⟨rfl, rfl⟩))
    go_ret
    exact ⟨ret_bool (by simp [runsF]), by ((repeat (first | (with_reducible exact Below.refl _ _) | (with_reducible assumption) | (with_reducible refine Below.alloc ?_ ?_ _) | (with_reducible refine Below.setCell ?_ ?_ _) | (with_reducible refine Below.drew ?_) | (with_reducible refine below_setRow ?_ ?_ _) | (refine Below.trans ?_ (Below.mono (by assumption) ?_)))); all_goals (first | omega | (simp; done) | (simp; omega)))⟩
theorem implRuns_any (f : Fld) (w : World) : Calls Tryz.prog 99 #[f.val] w fun r w' => r = .returned (.bool (runsF f)) ∧ Below w.heap.size w w' := by
  obtain ⟨n, k, rep, p, m⟩ := f
  cases rep
  all_goals
    go_enter Tryz.func99, Tryz.ntmps99
    go_wp2_with (first | (go_at_call 114; refine (implNumeric_any _ _).mono ?_; rintro r w1 ⟨rfl, rfl⟩))
    go_ret
    exact ⟨ret_bool (by simp [runsF]), by ((repeat (first | (with_reducible exact Below.refl _ _) | (with_reducible assumption) | (with_reducible refine Below.alloc ?_ ?_ _) | (with_reducible refine Below.setCell ?_ ?_ _) | (with_reducible refine Below.drew ?_) | (with_reducible refine below_setRow ?_ ?_ _) | (refine Below.trans ?_ (Below.mono (by assumption) ?_)))); all_goals (first | omega | (simp; done) | (simp; omega)))⟩
/-- The event of a value: booleans are told as 0 or 1. -/
def numBits (f : Fld) (u : Int) : Int := if f.kind = 3 ∧ 1 < u then 1 else u
def numEv (f : Fld) (u : Int) : Ev := ⟨2, f.number, numBits f u, 0, ⟨#[]⟩, 0, 0⟩
end Go.Proofs.YtejmmgbbkagijaaGreat

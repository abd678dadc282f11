/- Contracts of the functions that handle one field by value. -/
import Derived.Test.YtbgejldjgkihaaaEv
namespace Go.Proofs.Ytbgejldjgkihaaa
set_option linter.unusedSimpArgs false
set_option linter.unusedVariables false
open Go.ChangeShapes Go.WideShapes Go.ChangeAt Go.RowKit Go.BigFrame

theorem toRawField_any (e : Fld) (w : World) :
    Calls Try.prog 181 #[e.val] w fun r w' => r = .returned e.val ∧ Below w.heap.size w w' := by
  go_enter Try.func181, Try.ntmps181
  go_wp2
  exact bodyPost_ret (by simp [results, Try.results181, go_sem]; try rfl) rfl ⟨rfl, by ((repeat (first | (with_reducible exact Below.refl _ _) | (with_reducible assumption) | (with_reducible refine Below.alloc ?_ ?_ _) | (with_reducible refine Below.setCell ?_ ?_ _) | (with_reducible refine Below.drew ?_) | (with_reducible refine below_setRow ?_ ?_ _) | (refine Below.trans ?_ (Below.mono (by assumption) ?_)))); all_goals (first | omega | (simp; done) | (simp; omega)))⟩
theorem eqField_any (e f : Fld) (w : World) :
    Calls Try.prog 182 #[e.val, f.val] w fun r w' => r = .returned (.bool (decide (e = f))) ∧ Below w.heap.size w w' := by
  go_enter Try.func182, Try.ntmps182
  go_wp2
  all_goals
    go_ret
    exact ⟨ret_bool (by cases e; cases f; simp_all), by ((repeat (first | (with_reducible exact Below.refl _ _) | (with_reducible assumption) | (with_reducible refine Below.alloc ?_ ?_ _) | (with_reducible refine Below.setCell ?_ ?_ _) | (with_reducible refine Below.drew ?_) | (with_reducible refine below_setRow ?_ ?_ _) | (refine Below.trans ?_ (Below.mono (by assumption) ?_)))); all_goals (first | omega | (simp; done) | (simp; omega)))⟩
theorem eqRawField_any (e f : Fld) (w : World) :
    Calls Try.prog 183 #[e.val, f.val] w fun r w' => r = .returned (.bool (decide (e = f))) ∧ Below w.heap.size w w' := by
  go_enter Try.func183, Try.ntmps183
  go_wp2
  all_goals
    go_ret
    exact ⟨ret_bool (by cases e; cases f; simp_all), by ((repeat (first | (with_reducible exact Below.refl _ _) | (with_reducible assumption) | (with_reducible refine Below.alloc ?_ ?_ _) | (with_reducible refine Below.setCell ?_ ?_ _) | (with_reducible refine Below.drew ?_) | (with_reducible refine below_setRow ?_ ?_ _) | (refine Below.trans ?_ (Below.mono (by assumption) ?_)))); all_goals (first | omega | (simp; done) | (simp; omega)))⟩
theorem specNumeric_any (x : Int) (w : World) : Calls Try.prog 20 #[.int .i64 x] w fun r w' => r = .returned (.bool (inB x 1 5)) ∧ w = w' := by
  go_enter Try.func20, Try.ntmps20
  go_wp2_with (first | (go_at_call 56; refine (l1In_any _ _ _ _).mono ?_; rintro r w1 ⟨rfl, rfl⟩))
  go_ret
  exact ⟨rfl, rfl⟩
theorem implNumeric_any (x : Int) (w : World) : Calls Try.prog 63 #[.int .i64 x] w fun r w' => r = .returned (.bool (inB x 1 5)) ∧ w = w' := by
  go_enter Try.func63, Try.ntmps63
  go_wp2_with (first | (go_at_call 60; refine (within_any _ _ _ _).mono ?_; rintro r w1 ⟨rfl, rfl⟩))
  go_ret
  exact ⟨rfl, rfl⟩
/-- May the values of a field be packed? -/
def runsF (f : Fld) : Bool := f.rep && inB f.kind 1 5
theorem specRuns_any (f : Fld) (w : World) : Calls Try.prog 85 #[f.val] w fun r w' => r = .returned (.bool (runsF f)) ∧ Below w.heap.size w w' := by
  obtain ⟨n, k, rep, p, m⟩ := f
  cases rep
  all_goals
    go_enter Try.func85, Try.ntmps85
    go_wp2_with (first | (go_at_call 20; refine (specNumeric_any _ _).mono ?_; rintro r w1 ⟨rfl, rfl⟩))
    go_ret
    exact ⟨ret_bool (by simp [runsF]), by ((repeat (first | (with_reducible exact Below.refl _ _) | (with_reducible assumption) | (with_reducible refine Below.alloc ?_ ?_ _) | (with_reducible refine Below.setCell ?_ ?_ _) | (with_reducible refine Below.drew ?_) | (with_reducible refine below_setRow ?_ ?_ _) | (refine Below.trans ?_ (Below.mono (by assumption) ?_)))); all_goals (first | omega | (simp; done) | (simp; omega)))⟩
theorem implRuns_any (f : Fld) (w : World) : Calls Try.prog 19 #[f.val] w fun r w' => r = .returned (.bool (runsF f)) ∧ Below w.heap.size w w' := by
  obtain ⟨n, k, rep, p, m⟩ := f
  cases rep
  all_goals
    go_enter Try.func19, Try.ntmps19
    go_wp2_with (first | (go_at_call 63; refine (implNumeric_any _ _).mono ?_; rintro r w1 ⟨rfl, rfl⟩))
    go_ret
    exact ⟨ret_bool (by simp [runsF]), by ((repeat (first | (with_reducible exact Below.refl _ _) | (with_reducible assumption) | (with_reducible refine Below.alloc ?_ ?_ _) | (with_reducible refine Below.setCell ?_ ?_ _) | (with_reducible refine Below.drew ?_) | (with_reducible refine below_setRow ?_ ?_ _) | (refine Below.trans ?_ (Below.mono (by assumption) ?_)))); all_goals (first | omega | (simp; done) | (simp; omega)))⟩
/-- The event of a value: booleans are told as 0 or 1. -/
def numBits (f : Fld) (u : Int) : Int := if f.kind = 3 ∧ 1 < u then 1 else u
def numEv (f : Fld) (u : Int) : Ev := ⟨2, f.number, numBits f u, 0, ⟨#[]⟩, 0, 0⟩
end Go.Proofs.Ytbgejldjgkihaaa

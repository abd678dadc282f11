/- Contracts of the functions that handle one field by value. -/
import Derived.Test.YtkbjkpeklgdimaaEv
namespace Go.Proofs.Ytkbjkpeklgdimaa
set_option linter.unusedSimpArgs false
set_option linter.unusedVariables false
open Go.ChangeShapes Go.WideShapes Go.ChangeAt Go.RowKit Go.BigFrame

theorem toField_any (e : Fld) (w : World) :
    Calls Try.prog 22 #[e.val] w fun r w' => r = .returned e.val ∧ Below w.heap.size w w' := by
  go_enter Try.func22, Try.ntmps22
  go_wp2
  exact bodyPost_ret (by simp [results, Try.results22, go_sem]; try rfl) rfl ⟨rfl, by ((repeat (first | (with_reducible exact Below.refl _ _) | (with_reducible assumption) | (with_reducible refine Below.alloc ?_ ?_ _) | (with_reducible refine Below.setCell ?_ ?_ _) | (with_reducible refine Below.drew ?_) | (refine Below.trans ?_ (Below.mono (by assumption) ?_)))); all_goals (first | omega | (simp; done) | (simp; omega)))⟩
theorem specNumeric_any (x : Int) (w : World) : Calls Try.prog 54 #[.int .i64 x] w fun r w' => r = .returned (.bool (inB x 1 5)) ∧ w = w' := by
  go_enter Try.func54, Try.ntmps54
  go_wp2_with (first | (go_at_call 51; refine (l1In_any _ _ _ _).mono ?_; rintro r w1 ⟨rfl, rfl⟩))
  go_ret
  exact ⟨rfl, rfl⟩
theorem implNumeric_any (x : Int) (w : World) : Calls Try.prog 55 #[.int .i64 x] w fun r w' => r = .returned (.bool (inB x 1 5)) ∧ w = w' := by
  go_enter Try.func55, Try.ntmps55
  go_wp2_with (first | (go_at_call 52; refine (within_any _ _ _ _).mono ?_; rintro r w1 ⟨rfl, rfl⟩))
  go_ret
  exact ⟨rfl, rfl⟩
/-- May the values of a field be packed? -/
def runsF (f : Fld) : Bool := f.rep && inB f.kind 1 5
theorem specRuns_any (f : Fld) (w : World) : Calls Try.prog 21 #[f.val] w fun r w' => r = .returned (.bool (runsF f)) ∧ Below w.heap.size w w' := by
  obtain ⟨n, k, rep, p, m⟩ := f
  cases rep
  all_goals
    go_enter Try.func21, Try.ntmps21
    go_wp2_with (first | (go_at_call 54; refine (specNumeric_any _ _).mono ?_; rintro r w1 ⟨rfl, rfl⟩))
    go_ret
    exact ⟨ret_bool (by simp [runsF]), by ((repeat (first | (with_reducible exact Below.refl _ _) | (with_reducible assumption) | (with_reducible refine Below.alloc ?_ ?_ _) | (with_reducible refine Below.setCell ?_ ?_ _) | (with_reducible refine Below.drew ?_) | (refine Below.trans ?_ (Below.mono (by assumption) ?_)))); all_goals (first | omega | (simp; done) | (simp; omega)))⟩
theorem implRuns_any (f : Fld) (w : World) : Calls Try.prog 23 #[f.val] w fun r w' => r = .returned (.bool (runsF f)) ∧ Below w.heap.size w w' := by
  obtain ⟨n, k, rep, p, m⟩ := f
  cases rep
  all_goals
    go_enter Try.func23, Try.ntmps23
    go_wp2_with (first | (go_at_call 55; refine (implNumeric_any _ _).mono ?_; rintro r w1 ⟨rfl, rfl⟩))
    go_ret
    exact ⟨ret_bool (by simp [runsF]), by ((repeat (first | (with_reducible exact Below.refl _ _) | (with_reducible assumption) | (with_reducible refine Below.alloc ?_ ?_ _) | (with_reducible refine Below.setCell ?_ ?_ _) | (with_reducible refine Below.drew ?_) | (refine Below.trans ?_ (Below.mono (by assumption) ?_)))); all_goals (first | omega | (simp; done) | (simp; omega)))⟩
/-- The event of a value: booleans are told as 0 or 1. -/
def numBits (f : Fld) (u : Int) : Int := if f.kind = 3 ∧ 1 < u then 1 else u
def numEv (f : Fld) (u : Int) : Ev := ⟨2, f.number, numBits f u, 0, ⟨#[]⟩, 0, 0⟩
theorem specNumEvent_any (f : Fld) (u : Int) (w : World) : Calls Try.prog 30 #[f.val, .int .u64 u] w fun r w' => r = .returned (numEv f u).val ∧ Below w.heap.size w w' := by
  obtain ⟨n, k, rep, p, m⟩ := f
  by_cases h3 : (k == 3) = true
  · have H3 : k = 3 := by simpa using h3
    by_cases hu : 1 < u
    · have H := Lib.hid (show numBits ⟨n, k, rep, p, m⟩ u = 1 by simp only [numBits]; rw [if_pos ⟨H3, hu⟩])
      clear H3
      go_enter Try.func30, Try.ntmps30
      go_wp2
      exact bodyPost_ret (v := (numEv ⟨n, k, rep, p, m⟩ u).val) (by simp [results, Try.results30, go_sem, numEv, H.out]) rfl ⟨rfl, by ((repeat (first | (with_reducible exact Below.refl _ _) | (with_reducible assumption) | (with_reducible refine Below.alloc ?_ ?_ _) | (with_reducible refine Below.setCell ?_ ?_ _) | (with_reducible refine Below.drew ?_) | (refine Below.trans ?_ (Below.mono (by assumption) ?_)))); all_goals (first | omega | (simp; done) | (simp; omega)))⟩
    · have H := Lib.hid (show numBits ⟨n, k, rep, p, m⟩ u = u by simp only [numBits]; rw [if_neg (by omega)])
      clear H3
      go_enter Try.func30, Try.ntmps30
      go_wp2
      exact bodyPost_ret (v := (numEv ⟨n, k, rep, p, m⟩ u).val) (by simp [results, Try.results30, go_sem, numEv, H.out]) rfl ⟨rfl, by ((repeat (first | (with_reducible exact Below.refl _ _) | (with_reducible assumption) | (with_reducible refine Below.alloc ?_ ?_ _) | (with_reducible refine Below.setCell ?_ ?_ _) | (with_reducible refine Below.drew ?_) | (refine Below.trans ?_ (Below.mono (by assumption) ?_)))); all_goals (first | omega | (simp; done) | (simp; omega)))⟩
  · have h3' : (k == 3) = false := by simpa using h3
    have H := Lib.hid (show numBits ⟨n, k, rep, p, m⟩ u = u by simp only [numBits]; rw [if_neg (by simp at h3'; omega)])
    clear h3
    go_enter Try.func30, Try.ntmps30
    go_wp2
    exact bodyPost_ret (v := (numEv ⟨n, k, rep, p, m⟩ u).val) (by simp [results, Try.results30, go_sem, numEv, H.out]) rfl ⟨rfl, by ((repeat (first | (with_reducible exact Below.refl _ _) | (with_reducible assumption) | (with_reducible refine Below.alloc ?_ ?_ _) | (with_reducible refine Below.setCell ?_ ?_ _) | (with_reducible refine Below.drew ?_) | (refine Below.trans ?_ (Below.mono (by assumption) ?_)))); all_goals (first | omega | (simp; done) | (simp; omega)))⟩
theorem implNumEvent_any (f : Fld) (u : Int) (w : World) (h0 : 0 ≤ u) : Calls Try.prog 31 #[f.val, .int .u64 u] w fun r w' => r = .returned (numEv f u).val ∧ Below w.heap.size w w' := by
  obtain ⟨n, k, rep, p, m⟩ := f
  by_cases h3 : (k == 3) = true
  · have H3 : k = 3 := by simpa using h3
    by_cases hu : (u != 0) = true
    · have H := Lib.hid (show numBits ⟨n, k, rep, p, m⟩ u = 1 by simp at hu; simp only [numBits]; split <;> omega)
      clear H3
      go_enter Try.func31, Try.ntmps31
      go_wp2
      exact bodyPost_ret (v := (numEv ⟨n, k, rep, p, m⟩ u).val) (by simp [results, Try.results31, go_sem, numEv, H.out]) rfl ⟨rfl, by ((repeat (first | (with_reducible exact Below.refl _ _) | (with_reducible assumption) | (with_reducible refine Below.alloc ?_ ?_ _) | (with_reducible refine Below.setCell ?_ ?_ _) | (with_reducible refine Below.drew ?_) | (refine Below.trans ?_ (Below.mono (by assumption) ?_)))); all_goals (first | omega | (simp; done) | (simp; omega)))⟩
    · have hu' : (u != 0) = false := by simpa using hu
      have H := Lib.hid (show numBits ⟨n, k, rep, p, m⟩ u = u by simp at hu; simp only [numBits]; split <;> omega)
      clear H3 hu
      go_enter Try.func31, Try.ntmps31
      go_wp2
      exact bodyPost_ret (v := (numEv ⟨n, k, rep, p, m⟩ u).val) (by simp [results, Try.results31, go_sem, numEv, H.out]) rfl ⟨rfl, by ((repeat (first | (with_reducible exact Below.refl _ _) | (with_reducible assumption) | (with_reducible refine Below.alloc ?_ ?_ _) | (with_reducible refine Below.setCell ?_ ?_ _) | (with_reducible refine Below.drew ?_) | (refine Below.trans ?_ (Below.mono (by assumption) ?_)))); all_goals (first | omega | (simp; done) | (simp; omega)))⟩
  · have h3' : (k == 3) = false := by simpa using h3
    have H := Lib.hid (show numBits ⟨n, k, rep, p, m⟩ u = u by simp only [numBits]; rw [if_neg (by simp at h3'; omega)])
    clear h3
    go_enter Try.func31, Try.ntmps31
    go_wp2
    exact bodyPost_ret (v := (numEv ⟨n, k, rep, p, m⟩ u).val) (by simp [results, Try.results31, go_sem, numEv, H.out]) rfl ⟨rfl, by ((repeat (first | (with_reducible exact Below.refl _ _) | (with_reducible assumption) | (with_reducible refine Below.alloc ?_ ?_ _) | (with_reducible refine Below.setCell ?_ ?_ _) | (with_reducible refine Below.drew ?_) | (refine Below.trans ?_ (Below.mono (by assumption) ?_)))); all_goals (first | omega | (simp; done) | (simp; omega)))⟩
end Go.Proofs.Ytkbjkpeklgdimaa

/- Contracts of the functions that say whether an event is valid. -/
import Derived.Test.YtigmdaiecdoimaaGreatEv
namespace Go.Proofs.YtigmdaiecdoimaaGreat
set_option linter.unusedSimpArgs false
set_option linter.unusedVariables false
open Go.ChangeShapes Go.WideShapes Go.ChangeAt Go.RowKit

theorem toList_nil_iff (t : ByteArray) : t.toList = [] ↔ t = ⟨#[]⟩ := by
  rw [ByteArray.toList_eq]
  constructor
  · intro h; obtain ⟨⟨l⟩⟩ := t; simp at h; subst h; rfl
  · rintro rfl; rfl
theorem isEmpty_iff (t : ByteArray) : t.toList.isEmpty = decide (t = ⟨#[]⟩) := by
  rw [Bool.eq_iff_iff]; simp [List.isEmpty_iff, toList_nil_iff]
def hasFld (k : Int) : Bool := k == 2 || k == 3 || k == 6
/-- The event with the fields that its kind uses. -/
def bareE (e : Ev) : Ev :=
  { kind := e.kind
    field := if e.kind = 2 ∨ e.kind = 3 ∨ e.kind = 6 then e.field else 0
    bits := if e.kind = 2 then e.bits else 0
    len := if e.kind = 1 ∨ e.kind = 3 ∨ e.kind = 6 then e.len else 0
    text := if e.kind = 4 then e.text else ⟨#[]⟩
    code := if e.kind = 10 then e.code else 0
    at_ := if e.kind = 9 ∨ e.kind = 10 then e.at_ else 0 }
def tailOk (e : Ev) : Bool :=
  if e.kind = 2 ∨ e.kind = 3 ∨ e.kind = 6 then inB e.field 1 536870911 else if e.kind = 4 then !e.text.toList.isEmpty else if e.kind = 10 then decide (1 ≤ e.code) else true
def eventOk (e : Ev) : Bool := inB e.kind 1 10 && decide (e = bareE e) && decide (0 ≤ e.len) && decide (0 ≤ e.at_) && tailOk e

theorem kinds (k : Int) : k = 1 ∨ k = 2 ∨ k = 3 ∨ k = 4 ∨ k = 5 ∨ k = 6 ∨ k = 7 ∨ k = 8 ∨ k = 9 ∨ k = 10 ∨ inB k 1 10 = false := by
  by_cases h : inB k 1 10 = true
  · simp only [inB, decide_eq_true_eq] at h; omega
  · simp at h; simp [h]

set_option maxHeartbeats 4000000 in
theorem specEventOk_any (e : Ev) (w : World) : Calls Tryz.prog 176 #[e.val] w fun r w' => r = .returned (.bool (eventOk e)) ∧ Below w.heap.size w w' := by
  obtain ⟨k, f, b, l, t, c, a⟩ := e
  rcases kinds k with rfl | rfl | rfl | rfl | rfl | rfl | rfl | rfl | rfl | rfl | hk
  all_goals
    go_enter Tryz.func176, Tryz.ntmps176
    go_wp2_with (first | (go_at_call 72; refine (l1In_any _ _ _ _).mono ?_; rintro r w1 ⟨rfl, rfl⟩))
    all_goals
      go_ret
      refine ⟨ret_bool ?_, by ((repeat (first | (with_reducible exact Below.refl _ _) | (with_reducible assumption) | (with_reducible refine Below.alloc ?_ ?_ _) | (with_reducible refine Below.setCell ?_ ?_ _) | (with_reducible refine Below.drew ?_) | (with_reducible refine below_setRow ?_ ?_ _) | (refine Below.trans ?_ (Below.mono (by assumption) ?_)))); all_goals (first | omega | (simp; done) | (simp; omega)))⟩
      first
      | (simp_all [eventOk, bareE, tailOk, toList_nil_iff, isEmpty_iff]; done)
      | (simp_all [eventOk, bareE, tailOk, toList_nil_iff, isEmpty_iff]; intros; omega)
end Go.Proofs.YtigmdaiecdoimaaGreat

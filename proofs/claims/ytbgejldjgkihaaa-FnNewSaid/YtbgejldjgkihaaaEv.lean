/- Contracts of the functions that handle one event or one field by value. -/
import Derived.Test.YtbgejldjgkihaaaBase
namespace Go.Proofs.Ytbgejldjgkihaaa
set_option linter.unusedSimpArgs false
set_option linter.unusedVariables false
open Go.ChangeShapes Go.WideShapes Go.ChangeAt Go.RowKit

def inB (x a b : Int) : Bool := decide (a ≤ x ∧ x ≤ b)
theorem inB_of {x a b : Int} (h1 : a ≤ x) : decide (x ≤ b) = inB x a b := by simp [inB, h1]
theorem inB_no {x a b : Int} (h1 : x < a) : false = inB x a b := by simp [inB]; omega

theorem l1In_any (x a b : Int) (w : World) : Calls Try.prog 56 #[.int .i64 x, .int .i64 a, .int .i64 b] w fun r w' => r = .returned (.bool (inB x a b)) ∧ w = w' := by
  by_cases h : a ≤ x
  · go_enter Try.func56, Try.ntmps56
    go_wp2
    go_ret
    exact ⟨by rw [inB_of h]; rfl, rfl⟩
  · go_enter Try.func56, Try.ntmps56
    go_wp2
    go_ret
    exact ⟨by rw [← inB_no (by omega)]; rfl, rfl⟩
theorem within_any (x a b : Int) (w : World) : Calls Try.prog 60 #[.int .i64 x, .int .i64 a, .int .i64 b] w fun r w' => r = .returned (.bool (inB x a b)) ∧ w = w' := by
  by_cases h : a ≤ x
  · go_enter Try.func60, Try.ntmps60
    go_wp2
    go_ret
    exact ⟨by rw [inB_of h]; rfl, rfl⟩
  · go_enter Try.func60, Try.ntmps60
    go_wp2
    go_ret
    exact ⟨by rw [← inB_no (by omega)]; rfl, rfl⟩
theorem isEvent_any (x : Int) (w : World) : Calls Try.prog 121 #[.int .i64 x] w fun r w' => r = .returned (.bool (inB x 1 10)) ∧ w = w' := by
  go_enter Try.func121, Try.ntmps121
  go_wp2_with (first | (go_at_call 60; refine (within_any _ _ _ _).mono ?_; rintro r w1 ⟨rfl, rfl⟩))
  go_ret
  exact ⟨rfl, rfl⟩

/-! ### two events compared -/
def sameEv (e f : Ev) : Bool := decide (e = f)
theorem run_neq_ev (k f b l c a k' f' b' l' c' a' : Int) (t t' : ByteArray) (w : World) :
    (binOp .neq 64 (.agg #[.int .i64 k, .int .i64 f, .int .u64 b, .int .i64 l, .string t, .int .i64 c, .int .i64 a]) (.agg #[.int .i64 k', .int .i64 f', .int .u64 b', .int .i64 l', .string t', .int .i64 c', .int .i64 a'])).run Try.prog w
      = .ok (.bool (!sameEv (Ev.mk k f b l t c a) (Ev.mk k' f' b' l' t' c' a'))) w := by
  simp [go_sem, beq_bytes, sameEv]
  by_cases h1 : k = k' <;> by_cases h2 : f = f' <;> by_cases h3 : b = b' <;> by_cases h4 : l = l' <;> by_cases h5 : t = t' <;> by_cases h6 : c = c' <;> by_cases h7 : a = a' <;> simp [h1, h2, h3, h4, h5, h6, h7]

/-! ### an event is the last one -/
def terminal (e : Ev) : Bool := e.kind == 9 || e.kind == 10
theorem specTerminal_any (e : Ev) (w : World) :
    Calls Try.prog 81 #[e.val] w fun r w' => r = .returned (.bool (terminal e)) ∧ Below w.heap.size w w' := by
  by_cases h : e.kind = 9
  all_goals
    go_enter Try.func81, Try.ntmps81
    go_wp2
    go_ret
    refine ⟨by simp [terminal, h], ?_⟩
    repeat (first | exact Below.refl _ _ | (refine Below.alloc ?_ (by simp; try omega) _))
theorem implTerminal_any (e : Ev) (w : World) :
    Calls Try.prog 72 #[e.val] w fun r w' => r = .returned (.bool (terminal e)) ∧ Below w.heap.size w w' := by
  by_cases h : e.kind = 9
  all_goals
    go_enter Try.func72, Try.ntmps72
    go_wp2
    go_ret
    refine ⟨by simp [terminal, h], ?_⟩
    repeat (first | exact Below.refl _ _ | (refine Below.alloc ?_ (by simp; try omega) _))
end Go.Proofs.Ytbgejldjgkihaaa

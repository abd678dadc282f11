/- Contracts of the functions that handle one event or one field by value. -/
import Derived.Test.YtigmdaiecdoimaaBase
namespace Go.Proofs.Ytigmdaiecdoimaa
set_option linter.unusedSimpArgs false
set_option linter.unusedVariables false
open Go.ChangeShapes Go.WideShapes Go.ChangeAt Go.RowKit

def inB (x a b : Int) : Bool := decide (a ≤ x ∧ x ≤ b)
theorem inB_of {x a b : Int} (h1 : a ≤ x) : decide (x ≤ b) = inB x a b := by simp [inB, h1]
theorem inB_no {x a b : Int} (h1 : x < a) : false = inB x a b := by simp [inB]; omega

theorem l1In_any (x a b : Int) (w : World) : Calls Try.prog 58 #[.int .i64 x, .int .i64 a, .int .i64 b] w fun r w' => r = .returned (.bool (inB x a b)) ∧ w = w' := by
  by_cases h : a ≤ x
  · go_enter Try.func58, Try.ntmps58
    go_wp2
    go_ret
    exact ⟨by rw [inB_of h]; rfl, rfl⟩
  · go_enter Try.func58, Try.ntmps58
    go_wp2
    go_ret
    exact ⟨by rw [← inB_no (by omega)]; rfl, rfl⟩
theorem within_any (x a b : Int) (w : World) : Calls Try.prog 57 #[.int .i64 x, .int .i64 a, .int .i64 b] w fun r w' => r = .returned (.bool (inB x a b)) ∧ w = w' := by
  by_cases h : a ≤ x
  · go_enter Try.func57, Try.ntmps57
    go_wp2
    go_ret
    exact ⟨by rw [inB_of h]; rfl, rfl⟩
  · go_enter Try.func57, Try.ntmps57
    go_wp2
    go_ret
    exact ⟨by rw [← inB_no (by omega)]; rfl, rfl⟩
theorem isEvent_any (x : Int) (w : World) : Calls Try.prog 150 #[.int .i64 x] w fun r w' => r = .returned (.bool (inB x 1 10)) ∧ w = w' := by
  go_enter Try.func150, Try.ntmps150
  go_wp2_with (first | (go_at_call 57; refine (within_any _ _ _ _).mono ?_; rintro r w1 ⟨rfl, rfl⟩))
  go_ret
  exact ⟨rfl, rfl⟩
theorem toEvent_any (e : Ev) (w : World) :
    Calls Try.prog 106 #[e.val] w fun r w' => r = .returned e.val ∧ Below w.heap.size w w' := by
  go_enter Try.func106, Try.ntmps106
  go_wp2
  refine bodyPost_ret (by simp [results, Try.results106, go_sem]; try rfl) rfl ⟨rfl, ?_⟩
  repeat (first | exact Below.refl _ _ | (refine Below.alloc ?_ (by simp; try omega) _))
theorem eqEvent_any (e f : Ev) (w : World) :
    Calls Try.prog 114 #[e.val, f.val] w fun r w' => r = .returned (.bool (decide (e = f))) ∧ Below w.heap.size w w' := by
  go_enter Try.func114, Try.ntmps114
  go_wp2
  all_goals
    go_ret
    refine ⟨?_, ?_⟩
    · cases e; cases f; simp_all [beq_bytes]
    · repeat (first | exact Below.refl _ _ | (refine Below.alloc ?_ (by simp; try omega) _))
/-- What is left of a size behind an event: it is not above what it was, and where it is not negative the text was not longer. -/
theorem szEvent_any (e : Ev) (n : Int) (he : e.ok) (hn : 0 ≤ n) (hn' : n ≤ 1048576) (w : World) :
    Calls Try.prog 97 #[e.val, .int .i64 n] w fun r w' => r = .returned (.int .i64 (if n < e.text.size then -1 else n - e.text.size)) ∧ Below w.heap.size w w' := by
  have ht := he.text
  unfold maxLen at ht
  by_cases h : n < e.text.size
  all_goals
    go_enter Try.func97, Try.ntmps97
    go_wp2
    go_ret
    refine ⟨by simp [h], ?_⟩
    repeat (first | exact Below.refl _ _ | (refine Below.alloc ?_ (by simp; try omega) _))

/-! ### two events compared -/
def sameEv (e f : Ev) : Bool := decide (e = f)
theorem run_neq_ev (k f b l c a k' f' b' l' c' a' : Int) (t t' : ByteArray) (w : World) :
    (binOp .neq 67 (.agg #[.int .i64 k, .int .i64 f, .int .u64 b, .int .i64 l, .string t, .int .i64 c, .int .i64 a]) (.agg #[.int .i64 k', .int .i64 f', .int .u64 b', .int .i64 l', .string t', .int .i64 c', .int .i64 a'])).run Try.prog w
      = .ok (.bool (!sameEv (Ev.mk k f b l t c a) (Ev.mk k' f' b' l' t' c' a'))) w := by
  simp [go_sem, beq_bytes, sameEv]
  by_cases h1 : k = k' <;> by_cases h2 : f = f' <;> by_cases h3 : b = b' <;> by_cases h4 : l = l' <;> by_cases h5 : t = t' <;> by_cases h6 : c = c' <;> by_cases h7 : a = a' <;> simp [h1, h2, h3, h4, h5, h6, h7]

/-! ### an event is the last one -/
def terminal (e : Ev) : Bool := e.kind == 9 || e.kind == 10
theorem specTerminal_any (e : Ev) (w : World) :
    Calls Try.prog 89 #[e.val] w fun r w' => r = .returned (.bool (terminal e)) ∧ Below w.heap.size w w' := by
  by_cases h : e.kind = 9
  all_goals
    go_enter Try.func89, Try.ntmps89
    go_wp2
    go_ret
    refine ⟨by simp [terminal, h], ?_⟩
    repeat (first | exact Below.refl _ _ | (refine Below.alloc ?_ (by simp; try omega) _))
theorem implTerminal_any (e : Ev) (w : World) :
    Calls Try.prog 80 #[e.val] w fun r w' => r = .returned (.bool (terminal e)) ∧ Below w.heap.size w w' := by
  by_cases h : e.kind = 9
  all_goals
    go_enter Try.func80, Try.ntmps80
    go_wp2
    go_ret
    refine ⟨by simp [terminal, h], ?_⟩
    repeat (first | exact Below.refl _ _ | (refine Below.alloc ?_ (by simp; try omega) _))
end Go.Proofs.Ytigmdaiecdoimaa

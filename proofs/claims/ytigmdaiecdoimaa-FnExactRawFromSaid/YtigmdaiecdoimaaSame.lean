/- Schemas compared. -/
import Derived.Test.YtigmdaiecdoimaaFind
namespace Go.Proofs.Ytigmdaiecdoimaa
set_option linter.unusedSimpArgs false
set_option linter.unusedVariables false
open Go.ChangeShapes Go.WideShapes Go.ChangeAt Go.RowKit Go.BigFrame

/-! ### schemas compared -/
def sameF (f g : Fld) : Bool := decide (f = g)
theorem run_neq_fld (a b e a' b' e' : Int) (p q p' q' : Bool) (w : World) :
    (binOp .neq 40 (.agg #[.int .i64 a, .int .i64 b, .bool p, .bool q, .int .i64 e]) (.agg #[.int .i64 a', .int .i64 b', .bool p', .bool q', .int .i64 e'])).run Try.prog w = .ok (.bool (!sameF ⟨a, b, p, q, e⟩ ⟨a', b', p', q', e'⟩)) w := by
  simp [go_sem, sameF]
  by_cases h1 : a = a' <;> by_cases h2 : b = b' <;> by_cases h3 : p = p' <;> by_cases h4 : q = q' <;> by_cases h5 : e = e' <;> simp [h1, h2, h3, h4, h5]
theorem run_eql_fld (a b e a' b' e' : Int) (p q p' q' : Bool) (w : World) :
    (binOp .eql 40 (.agg #[.int .i64 a, .int .i64 b, .bool p, .bool q, .int .i64 e]) (.agg #[.int .i64 a', .int .i64 b', .bool p', .bool q', .int .i64 e'])).run Try.prog w = .ok (.bool (sameF ⟨a, b, p, q, e⟩ ⟨a', b', p', q', e'⟩)) w := by
  simp [go_sem, sameF]
  by_cases h1 : a = a' <;> by_cases h2 : b = b' <;> by_cases h3 : p = p' <;> by_cases h4 : q = q' <;> by_cases h5 : e = e' <;> simp [h1, h2, h3, h4, h5]
theorem ne_of_at {α : Type} [DecidableEq α] {xs ys : List α} {k : Nat} {e f : α} (he : xs[k]? = some e) (hf : ys[k]? = some f) (h : ¬ e = f) : decide (xs = ys) = false := by
  simp only [decide_eq_false_iff_not]; rintro rfl; rw [he] at hf; simp at hf; exact h hf
theorem take_same {α : Type} {xs ys : List α} {k : Nat} {e : α} (h : xs.take k = ys.take k) (he : xs[k]? = some e) (hf : ys[k]? = some e) : xs.take (k + 1) = ys.take (k + 1) := by
  rw [List.take_add_one, List.take_add_one, h, he, hf]
theorem take_end {α : Type} [DecidableEq α] {xs ys : List α} {k : Nat} (h : xs.take k = ys.take k) (h1 : xs.length ≤ k) (h2 : ys.length ≤ k) : decide (xs = ys) = true := by
  rw [List.take_of_length_le h1, List.take_of_length_le h2] at h; simp [h]
end Go.Proofs.Ytigmdaiecdoimaa

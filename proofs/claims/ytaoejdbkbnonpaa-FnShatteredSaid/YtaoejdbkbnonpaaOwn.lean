/- What a gathered row is; the least of two numbers. -/
import Derived.Test.YtaoejdbkbnonpaaPut
namespace Go.Proofs.Ytaoejdbkbnonpaa
set_option linter.unusedSimpArgs false
set_option linter.unusedVariables false
open Go.ChangeShapes Go.WideShapes Go.ChangeAt Go.RowKit Go.BigFrame

theorem isEmpty_bytes (s : ByteArray) : (s.size = 0 → s.toList.isEmpty = true) ∧ (¬ s.size = 0 → s.toList.isEmpty = false) := by
  rw [ByteArray.toList_eq]
  have e : s.data.toList.length = s.size := Array.length_toList
  rw [← e]
  cases s.data.toList <;> simp
theorem owned_shape {w : World} {base n size : Nat} {t : TypeId} {v : Value} {L : List Value} (h : w.ownsRow base t size v n L) : ∃ a cap, v = .slice a n cap ∧ w.ownsRow base t size (.slice a n cap) n L := by
  rcases h.2 with ⟨rfl, h0⟩ | ⟨g, cap, cur, rfl, _⟩
  · exact ⟨none, 0, by rw [h0], by subst h0; exact h⟩
  · exact ⟨_, _, rfl, h⟩
theorem own_capm {w : World} {base n cap size : Nat} {a : Option Addr} {t : TypeId} {xs : List Value} (h : w.ownsRow base t size (.slice a n cap) n xs) : cap ≤ maxLen := by
  rcases h.2 with ⟨e, h0⟩ | ⟨g, cap', cur, e, _, _, _, hc, _⟩
  · simp only [Value.slice.injEq] at e; omega
  · simp only [Value.slice.injEq] at e
    omega
theorem specMin_any (x y m : Int) (w : World) (h : m = min x y) : Calls Try.prog 69 #[.int .i64 x, .int .i64 y] w fun r w' => r = .returned (.int .i64 m) ∧ w = w' := by
  subst h
  go_enter Try.func69, Try.ntmps69
  go_wp2
  all_goals
    go_ret
    exact ⟨ret_int (by omega), rfl⟩
end Go.Proofs.Ytaoejdbkbnonpaa

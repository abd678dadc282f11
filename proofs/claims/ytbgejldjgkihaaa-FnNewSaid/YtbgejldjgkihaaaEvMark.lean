/- Slices of events: marking, and looking at the marks. -/
import Derived.Test.YtbgejldjgkihaaaMark
namespace Go.Proofs.Ytbgejldjgkihaaa
set_option linter.unusedSimpArgs false
set_option linter.unusedVariables false
open Go.ChangeShapes Go.WideShapes Go.ChangeAt Go.RowKit Go.BigFrame

theorem OwnR.of_ownsK {w : World} {base n cap size : Nat} {t : TypeId} {a : Option Addr} {L : List Value} (h : w.ownsRow base t size (.slice a n cap) n L) : OwnR w base w.heap.size a (n * size) L := by
  refine ⟨h.1, ?_⟩
  have hl := h.lt
  have hc : ∀ g, (Value.slice a n cap).ownBlock = some g → _ := fun g hg => World.ownsRow.cells h hg
  rcases h.2 with ⟨e, h0⟩ | ⟨g, cap', cur, e, hb, hh, _⟩
  · exact .inl (by rw [h0]; omega)
  · simp only [Value.slice.injEq] at e
    obtain ⟨rfl, _, rfl⟩ := e
    have h1 := hl g rfl
    exact .inr ⟨g, rfl, h1.1, h1.2, h1.2, fun j u hu => by have := hc g rfl j u hu; rwa [Addr.add_lit, Nat.zero_add] at this, h.frozenAt⟩
theorem OwnR.slK {α : Type} {cs : α → List Value} {sz : Nat} {w : World} {lo hi n : Nat} {a : Option Addr} {xs : List α} (hsz : 0 < sz) (hcs : ∀ x, (cs x).length = sz) (h : OwnR w lo hi a (n * sz) (xs.flatMap cs)) : Sl sz cs w a xs := by
  intro k e he
  have hk : k < xs.length := by
    rcases Nat.lt_or_ge k xs.length with h' | h'
    · exact h'
    · rw [List.getElem?_eq_none h'] at he; simp at he
  have hlen := h.len
  rw [flatMap_len hcs] at hlen
  rcases h.own with h0 | ⟨g, ha, h1, h2, h3, h4, h5⟩
  · have : 0 < xs.length * sz := Nat.mul_pos (by omega) hsz
    omega
  · refine ⟨g, 0, ha, h3, fun j u hu => ?_⟩
    have hj : j < sz := by
      rcases Nat.lt_or_ge j sz with h' | h'
      · exact h'
      · rw [List.getElem?_eq_none (by rw [hcs]; exact h')] at hu; simp at hu
    have := h4 (k * sz + j) u (by rw [flatMap_at hcs xs k j e he hj]; exact hu)
    simpa using this
def markE (q : Nat) : List Value := [.int .i64 (q : Int), .int .i64 ((q : Int) + 1), .int .u64 ((q : Int) + 1 + 1), .int .i64 ((q : Int) + 1 + 1 + 1), .string (mt (q + 4)), .int .i64 ((q : Int) + 1 + 1 + 1 + 1 + 1), .int .i64 ((q : Int) + 1 + 1 + 1 + 1 + 1 + 1)]
def marksE (k n : Nat) : List Value := (List.range n).flatMap fun i => markE (k + 7 * i)
theorem markE_len (q : Nat) : (markE q).length = 7 := rfl
theorem marksE_succ (k n : Nat) : marksE k (n + 1) = marksE k n ++ markE (k + 7 * n) := by simp [marksE, List.range_succ]
theorem marksE_len (k n : Nat) : (marksE k n).length = n * 7 := by
  induction n with
  | zero => rfl
  | succ n ih => rw [marksE_succ, List.length_append, ih, markE_len]; omega
theorem marksE_at (k n j i : Nat) (hj : j < n) (hi : i < 7) : (marksE k n)[j * 7 + i]? = (markE (k + 7 * j))[i]? := by
  induction n with
  | zero => omega
  | succ n ih =>
    rw [marksE_succ]
    by_cases hjn : j < n
    · rw [List.getElem?_append_left (by rw [marksE_len]; omega)]; exact ih hjn
    · obtain rfl : j = n := by omega
      rw [List.getElem?_append_right (by rw [marksE_len]; omega), marksE_len]
      congr 1; omega
end Go.Proofs.Ytbgejldjgkihaaa

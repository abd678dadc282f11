/- Reading a varint that ends before an offset. -/
import Derived.Test.YtbgejldjgkihaaaEv
namespace Go.Proofs.Ytbgejldjgkihaaa
set_option linter.unusedSimpArgs false
set_option linter.unusedVariables false
open Go.ChangeShapes Go.WideShapes Go.ChangeAt Go.RowKit Go.BigFrame

def byteAt (s : ByteArray) (i : Nat) : Nat := if h : i < s.size then s[i].toNat else 0
theorem byteAt_eq {s : ByteArray} {i : Nat} (h : i < s.size) : byteAt s i = s[i].toNat := by simp [byteAt, h]
theorem byteAt_lt (s : ByteArray) (i : Nat) : byteAt s i < 256 := by
  unfold byteAt; split
  · exact UInt8.toNat_lt _
  · omega
/-- What is read from the k-th byte on: the number, where it ends, the error. -/
def vwGo (s : ByteArray) (a : Nat) (e : Int) : Nat → Nat → Int → Int × Int × Int
  | 0, _, _ => (0, s.size, 10)
  | f + 1, k, u =>
    if e ≤ (a + k : Nat) then (0, e, 9)
    else if s.size ≤ a + k then (0, s.size, 10)
    else if k = 9 ∧ 1 < byteAt s (a + k) then (0, (a + k : Nat), 1)
    else if byteAt s (a + k) < 128 then (u + (byteAt s (a + k) % 128 : Nat) * 2 ^ (7 * k), (a + k + 1 : Nat), 0)
    else vwGo s a e f (k + 1) (u + (byteAt s (a + k) % 128 : Nat) * 2 ^ (7 * k))
def varWithin (s : ByteArray) (a e : Int) : Int × Int × Int :=
  if 0 ≤ a ∧ a ≤ s.size then vwGo s a.toNat e 10 0 0 else (0, s.size, 10)

theorem ten_nat {k : Nat} (h : k < 10) : k = 0 ∨ k = 1 ∨ k = 2 ∨ k = 3 ∨ k = 4 ∨ k = 5 ∨ k = 6 ∨ k = 7 ∨ k = 8 ∨ k = 9 := by omega
/-- The reference's new number: nothing wraps. -/
theorem step_spec {u : Int} {b k : Nat} (h0 : 0 ≤ u) (h1 : u < 2 ^ (7 * k)) (hb : b < 256) (hk : k < 10) (h9 : k = 9 → b ≤ 1) :
    IntKind.u64.wrap (u + IntKind.u64.wrap ((IntKind.u64.wrap (b : Int)).tmod 128 * 2 ^ (7 * k))) = u + (b % 128 : Nat) * 2 ^ (7 * k) ∧ u + (b % 128 : Nat) * 2 ^ (7 * k) < 2 ^ (7 * (k + 1)) := by
  have e1 : IntKind.u64.wrap (b : Int) = b := by rw [IntKind.wrap_u64]; omega
  have e2 : (b : Int).tmod 128 = ((b % 128 : Nat) : Int) := by rw [Int.tmod_eq_emod_of_nonneg (by omega)]; omega
  rw [e1, e2]
  rcases ten_nat hk with rfl | rfl | rfl | rfl | rfl | rfl | rfl | rfl | rfl | rfl
  all_goals
    try (have hb9 := h9 rfl)
    clear h9
    simp only [IntKind.wrap_u64]
    simp only [Nat.reduceMul, Nat.reduceAdd, Int.reducePow] at *
    omega

theorem wraps_u64' (n : Int) (h₀ : 0 ≤ n) (h₁ : n < 2 ^ 64) : IntKind.u64.wrap n = n := by rw [IntKind.wrap_u64]; omega
theorem u8_and127' (x : Int) (h₀ : 0 ≤ x) (h₁ : x < 256) : bits .and .u8 x 127 = x % 128 := bits_mask .u8 8 (by decide) wraps_u8 7 (by decide) x h₀ h₁
theorem or_u64 {u x : Int} (j : Nat) (hu0 : 0 ≤ u) (hu : u < 2 ^ j) (hx0 : 0 ≤ x) (hx : x % 2 ^ j = 0) (hx1 : x < 2 ^ 64) (hu1 : u < 2 ^ 64) : bits .or .u64 u x = u + x := by
  have hc : bits .or .u64 u x = bits .or .u64 x u := by simp only [bits, BitVec.or_comm]
  rw [hc, bits_join .u64 64 (by decide) wraps_u64' j x u hx0 hx hx1 hu0 hu hu1]
  omega
/-- The program's new number: the same. -/
theorem step_impl {u : Int} {b k : Nat} (h0 : 0 ≤ u) (h1 : u < 2 ^ (7 * k)) (hb : b < 256) (hk : k < 10) (h9 : k = 9 → b ≤ 1) :
    bits .or .u64 u (IntKind.u64.wrap (IntKind.u64.wrap (bits .and .u8 (b : Int) 127) * 2 ^ (7 * k))) = u + (b % 128 : Nat) * 2 ^ (7 * k) := by
  have e1 : bits .and .u8 (b : Int) 127 = ((b % 128 : Nat) : Int) := by rw [u8_and127' _ (by omega) (by omega)]; omega
  have e2 : IntKind.u64.wrap ((b % 128 : Nat) : Int) = ((b % 128 : Nat) : Int) := by rw [IntKind.wrap_u64]; omega
  rw [e1, e2]
  have e3 : IntKind.u64.wrap (((b % 128 : Nat) : Int) * 2 ^ (7 * k)) = ((b % 128 : Nat) : Int) * 2 ^ (7 * k) ∧ ((b % 128 : Nat) : Int) * 2 ^ (7 * k) < 2 ^ 64 ∧ (0 : Int) ≤ ((b % 128 : Nat) : Int) * 2 ^ (7 * k) ∧ u < 2 ^ 64 := by
    rcases ten_nat hk with rfl | rfl | rfl | rfl | rfl | rfl | rfl | rfl | rfl | rfl
    all_goals
      try (have hb9 := h9 rfl)
      clear h9
      simp only [IntKind.wrap_u64]
      simp only [Nat.reduceMul, Nat.reduceAdd, Int.reducePow] at *
      omega
  rw [e3.1]
  exact or_u64 (7 * k) h0 h1 e3.2.2.1 (Int.mul_emod_left _ _) e3.2.1 e3.2.2.2

theorem modNat (b : Nat) : (b : Int) % 128 = ((b % 128 : Nat) : Int) := by omega
theorem step_fits {u : Int} {b k : Nat} (h0 : 0 ≤ u) (h1 : u < 2 ^ (7 * k)) (hb : b < 256) (hk : k < 10) (h9 : k = 9 → b ≤ 1) :
    IntKind.u64.wrap (u + IntKind.u64.wrap ((b : Int) % 128 * 2 ^ (7 * k))) = u + (b % 128 : Nat) * 2 ^ (7 * k) := by
  rw [modNat]
  rcases ten_nat hk with rfl | rfl | rfl | rfl | rfl | rfl | rfl | rfl | rfl | rfl
  all_goals
    try (have hb9 := h9 rfl)
    clear h9
    simp only [IntKind.wrap_u64]
    simp only [Nat.reduceMul, Nat.reduceAdd, Int.reducePow] at *
    omega
theorem step_fits9 {u : Int} {b : Nat} (h0 : 0 ≤ u) (h1 : u < 2 ^ (7 * 9)) (hb : b ≤ 1) : IntKind.u64.wrap (u + (b : Int) % 128 * 9223372036854775808) = u + (b % 128 : Nat) * 2 ^ (7 * 9) := by
  rw [modNat]
  simp only [IntKind.wrap_u64]
  simp only [Nat.reduceMul, Nat.reduceAdd, Int.reducePow] at *
  omega
end Go.Proofs.Ytbgejldjgkihaaa

/- Writing a varint: the reference's PutVar and the program's give the same bytes. -/
import Derived.Test.YtbgejldjgkihaaaSl
import Derived.Test.YtbgejldjgkihaaaVar
import Derived.Laws.IdiomStrings
namespace Go.Proofs.Ytbgejldjgkihaaa
set_option linter.unusedSimpArgs false
set_option linter.unusedVariables false
open Go.ChangeShapes Go.WideShapes Go.ChangeAt Go.RowKit Go.BigFrame

@[reducible] def bv (l : List UInt8) : List Value := l.map fun b => Value.int .u8 (b.toNat : Int)
/-- The first k bytes, each with its high bit. -/
def hiB (n k : Nat) : List UInt8 := (List.range k).map fun i => UInt8.ofNat (n / 128 ^ i % 128 + 128)
/-- So many bytes, the last one apart. -/
def putB (n k : Nat) : List UInt8 := hiB n k ++ [UInt8.ofNat (n / 128 ^ k % 128)]
structure IsLen (n k : Nat) : Prop where
  below : ∀ j, j < k → 127 < n / 128 ^ j
  last : n / 128 ^ k ≤ 127
theorem hiB_len (n k : Nat) : (hiB n k).length = k := by simp [hiB]
theorem hiB_succ (n k : Nat) : hiB n (k + 1) = hiB n k ++ [UInt8.ofNat (n / 128 ^ k % 128 + 128)] := by simp [hiB, List.range_succ]
theorem IsLen.uniq {n k k' : Nat} (h : IsLen n k) (h' : IsLen n k') : k = k' := by
  rcases Nat.lt_trichotomy k k' with hl | rfl | hl
  · have := h'.below k hl; have := h.last; omega
  · rfl
  · have := h.below k' hl; have := h'.last; omega
theorem len_le {n k : Nat} (hn : n < 2 ^ 64) (h : ∀ j, j < k → 127 < n / 128 ^ j) : k ≤ 9 := by
  rcases Nat.lt_or_ge 9 k with h9 | h9
  · have := h 9 h9
    simp only [Nat.reducePow] at this hn
    omega
  · exact h9
theorem pow_step (n k : Nat) : n / 128 ^ k / 128 = n / 128 ^ (k + 1) := by rw [Nat.div_div_eq_div_mul, Nat.pow_succ]
theorem div_lt (n k : Nat) (hn : n < 2 ^ 64) : n / 128 ^ k < 2 ^ 64 := Nat.lt_of_le_of_lt (Nat.div_le_self _ _) hn
/-- 'string(b)' of a row of bytes of the call's own. -/
theorem own_string {w : World} {base n : Nat} {v : Value} {l : List UInt8} {src dst e : TypeId} (h : w.ownsRow base e 1 v n (bv l)) (hn : 0 < n) (hs : Try.prog.underlying src = some (.slice e)) (he : Try.prog.underlying e = some (.int .u8)) (hd : Try.prog.underlying dst = some .string) :
    (convert src dst v).run Try.prog w = .ok (.string ⟨l.toArray⟩) w := by
  have hcells : ∀ g, v.ownBlock = some g → _ := fun g hg => World.ownsRow.cells h hg
  obtain ⟨hl, h⟩ := h
  rcases h with ⟨rfl, h0⟩ | ⟨g, cap, cur, rfl, hb, hh, hc, hm, hz, ht⟩
  · omega
  · have hl' : l.length = n := by simpa [bv] using hl
    subst hl'
    exact run_convert_bytes_back w src dst e ⟨g, 0, none⟩ cap l hs he hd fun j hj => hcells g rfl j _ (by simp [bv, List.getElem?_eq_getElem hj])
/-- The same for whatever length. -/
theorem own_string0 {w : World} {base n : Nat} {v : Value} {l : List UInt8} {src dst e : TypeId} (h : w.ownsRow base e 1 v n (bv l)) (hv : v ≠ .slice none 0 0) (hs : Try.prog.underlying src = some (.slice e)) (he : Try.prog.underlying e = some (.int .u8)) (hd : Try.prog.underlying dst = some .string) :
    (convert src dst v).run Try.prog w = .ok (.string ⟨l.toArray⟩) w := by
  have hcells : ∀ g, v.ownBlock = some g → _ := fun g hg => World.ownsRow.cells h hg
  obtain ⟨hl, h⟩ := h
  rcases h with ⟨rfl, h0⟩ | ⟨g, cap, cur, rfl, hb, hh, hc, hm, hz, ht⟩
  · exact absurd rfl hv
  · have hl' : l.length = n := by simpa [bv] using hl
    subst hl'
    exact run_convert_bytes_back w src dst e ⟨g, 0, none⟩ cap l hs he hd fun j hj => hcells g rfl j _ (by simp [bv, List.getElem?_eq_getElem hj])
theorem bv_append (l m : List UInt8) : bv l ++ bv m = bv (l ++ m) := by simp [bv]
theorem bv_snoc (l : List UInt8) (x : Nat) (hx : x < 256) : bv l ++ [Value.int .u8 (x : Int)] = bv (l ++ [UInt8.ofNat x]) := by
  simp [bv, Nat.mod_eq_of_lt hx]
theorem below_succ {n k : Nat} (h : ∀ j, j < k → 127 < n / 128 ^ j) (hk : 127 < n / 128 ^ k) : ∀ j, j < k + 1 → 127 < n / 128 ^ j := fun j hj => by
  rcases Nat.lt_or_ge j k with h' | h'
  · exact h j h'
  · obtain rfl : j = k := by omega
    exact hk
theorem row_snoc (L : List Value) (j : Nat) (x : Value) (h : j < L.length) : (L.set j x).take (j + 1) = L.take j ++ [x] := setRow_take [x] L j (by simp; omega)
theorem one_cell (w : World) (x : Value) (t : TypeId) : ∀ (j : Nat) (u : Value), [x][j]? = some u → (w.alloc (.cells #[x] t)).cell? ((⟨w.heap.size, 0, none⟩ : Addr).add j) = some u := by
  intro j u hj
  match j, hj with
  | 0, hj => simp at hj; subst hj; simp [Addr.add]
/-- All n bytes with their high bits, and then the last one's taken off. -/
theorem putB_set (n k : Nat) : (hiB n (k + 1)).set k (UInt8.ofNat (n / 128 ^ k % 128)) = putB n k := by
  rw [hiB_succ, List.set_append_right _ _ (by rw [hiB_len]; exact Nat.le_refl _), hiB_len]
  simp [putB]
theorem bv_set (l : List UInt8) (k x : Nat) (hx : x < 256) : (bv l).set k (.int .u8 (x : Int)) = bv (l.set k (UInt8.ofNat x)) := by
  simp [bv, List.map_set, Nat.mod_eq_of_lt hx]
theorem u64_and127' (m : Nat) (h : m < 2 ^ 64) : bits .and .u64 (m : Int) 127 = (m : Int) % 128 :=
  bits_mask .u64 64 (by decide) (fun x h0 h1 => by rw [IntKind.wrap_u64]; omega) 7 (by decide) (m : Int) (by omega) (by omega)
theorem u64_or128 (x : Int) (h0 : 0 ≤ x) (h1 : x < 128) : bits .or .u64 x 128 = x + 128 :=
  or_u64 7 h0 (by omega) (by omega) (by decide) (by omega) (by omega)
theorem u8_and127b (x : Int) (h0 : 0 ≤ x) (h1 : x < 128) : bits .and .u8 (x + 128) 127 = x := by
  rw [u8_and127' _ (by omega) (by omega)]; omega
theorem putB_size (n k : Nat) : (putB n k).length = k + 1 := by simp [putB, hiB_len]
theorem putB_bytes (n k : Nat) : (⟨(putB n k).toArray⟩ : ByteArray).size = k + 1 := by
  show (putB n k).toArray.size = _
  rw [List.size_toArray, putB_size]
end Go.Proofs.Ytbgejldjgkihaaa

/- Draws that hand back rows: bytes, numbers. -/
import Derived.Test.YtigmdaiecdoimaaDraw
import Derived.Test.YtigmdaiecdoimaaPut
namespace Go.Proofs.Ytigmdaiecdoimaa
set_option linter.unusedSimpArgs false
set_option linter.unusedVariables false
open Go.ChangeShapes Go.WideShapes Go.ChangeAt Go.RowKit Go.BigFrame

/-- The cursor is a cursor, and of what was there nothing else is changed. -/
structure Up (B : Nat) (w0 w : World) : Prop where
  cur : Cur w B
  oth : Oth B w0 w
theorem Cur.same {w w' : World} {B : Nat} (h : Cur w B) (hs : ∀ k, k ≤ B → w'.heap[k]? = w.heap[k]?) : Cur w' B := by
  obtain ⟨a, n, cap, i, x, hh, hi, hn, hb⟩ := h
  refine ⟨a, n, cap, i, x, (hs B (Nat.le_refl _)).trans hh, hi, hn, fun k hk => ?_⟩
  obtain ⟨b, off, e, hb', y, h0, h1, hc⟩ := hb k hk
  exact ⟨b, off, e, hb', y, h0, h1, (World.cell?_of_block (a := ⟨b, off + k, none⟩) (hs b (by omega))).trans hc⟩
theorem Up.grown {B : Nat} {w0 w w' : World} {row : Option Nat} (h : Up B w0 w) (hB : B < w0.heap.size) (hg : w.grownBy w' row) (hr : ∀ g, row = some g → w0.heap.size ≤ g) : Up B w0 w' := by
  have hsz := h.oth.size
  refine ⟨h.cur.same fun k hk => hg.block k (by omega) (fun e => by have := hr k e.symm; omega), ⟨hg.os.trans h.oth.os, hg.tape.trans h.oth.tape, hg.output.trans h.oth.output, Nat.le_trans hsz hg.size, fun k hk hn => ?_⟩⟩
  exact (hg.block k (by omega) (fun e => by have := hr k e.symm; omega)).trans (h.oth.block hk (by simpa using hn))
theorem Up.alloc {B : Nat} {w0 w : World} (h : Up B w0 w) (hB : B < w0.heap.size) (o : Obj) : Up B w0 (w.alloc o) := h.grown hB (World.grownBy_alloc w o none) (by simp)
theorem Up.step {B : Nat} {w0 w w' : World} (h : Up B w0 w) (hc : Cur w' B) (ho : Oth B w w') : Up B w0 w' := ⟨hc, h.oth.trans ho⟩
theorem Oth.undrew {B : Nat} {w w' : World} (h : Oth B w.drew w') : Oth B w w' := by
  have h' : w.drew.grownBy w' (some B) := h
  obtain ⟨a, b, c, d, e⟩ := h'
  exact ⟨a, b, c, d, e⟩
theorem Up.refl {B : Nat} {w : World} (h : Cur w B) : Up B w w := ⟨h, Oth.refl _ _⟩
theorem owns_oth {w w' : World} {B base n size : Nat} {t : TypeId} {v : Value} {L : List Value} (h : w.ownsRow base t size v n L) (ho : Oth B w w') (hB : B < base) : w'.ownsRow base t size v n L :=
  h.kept ho (.inr (by
    intro e
    have h1 := h.lt B e
    omega))
def DrawnB (B m : Nat) (w : World) (r : Ending) (w' : World) : Prop := ∃ (v : Value) (l : List UInt8), r = .returned v ∧ l.length = m ∧ v ≠ .slice none 0 0 ∧ w'.ownsRow w.heap.size 5 1 v m (bv l) ∧ Up B w w'
set_option maxRecDepth 100000 in
set_option maxHeartbeats 2000000 in
theorem l1Bytes_any (B : Nat) (m : Nat) (w : World) (hc : Cur w B) (hm : m ≤ 1000) : Calls Try.prog 127 #[.pointer (some ⟨B, 0, none⟩), .int .i64 m] w (DrawnB B m w) := by
  have hB := hc.lt
  obtain ⟨i0, hi, hz0, hz1, hz2⟩ := info_parts info_u8
  go_enter Try.func127, Try.ntmps127
  go_wp2
  go_loopw [5, 6] (fun v i wr => ∃ (k : Nat) (l : List UInt8), k ≤ m ∧ i = .int .i64 k ∧ l.length = k ∧ Hid (v ≠ .slice none 0 0) ∧ wr.ownsRow w.heap.size 5 1 v k (bv l) ∧ Up B w wr) (fun _ i _ => m - (intOf i).toNat)
  case atStart => exact ⟨0, [], Nat.zero_le _, rfl, rfl, Lib.hid (by simp), ⟨by simp, .inr ⟨w.heap.size, 0, #[], rfl, Nat.le_refl _, heap_nth0 w _, Nat.le_refl _, Nat.zero_le _, rfl, rfl⟩⟩, (Up.refl hc).alloc hB _⟩
  case round =>
    obtain ⟨k, l, hk, rfl, hl, hnn, ho, hu⟩ := hrel
    have HL := Lib.hid hl; clear hl
    have HO := Lib.hid ho; clear ho
    have hsz := hu.oth.size
    by_cases hlt : k < m
    · go_wp2_with fail
      refine (l1Byte_any B wr hu.cur).mono ?_
      rintro r w2 ⟨y, rfl, hy0, hy1, hc2, ho2⟩
      obtain ⟨q, rfl⟩ := Int.eq_ofNat_of_zero_le hy0
      have hu2 := hu.step hc2 ho2
      have HO2 := Lib.hid (owns_oth HO.out ho2 hB)
      have hsz2 := hu2.oth.size
      clear HO hc2 ho2
      go_wp2_with (first | (at_builtin; refine wpList_append_own _ rfl _ _ 22 rfl w.heap.size 5 i0 (.int .u8 0) 1 1 Try.underlying22 hi hz0 hz1 hz2 rfl (by decide) _ _ _ rfl (HO2.out.alloc _) ⟨w2.heap.size, 0, none⟩ 1 1 [.int .u8 (q : Int)] rfl rfl (one_cell _ _ _) (by intro u hu; simp at hu; subst hu; rfl) (by unfold maxLen; omega) (by omega) (by simp; omega) ?_; intro v1 w1 hown1 hgrow1 hnn1; have hu1 := (hu2.alloc hB _).grown hB hgrow1 (fun g hg => (HO2.out.lt g hg).1); clear hgrow1; have HN1 := Lib.hid (show v1 ≠ .slice none 0 0 from fun hq => hnn.out (hnn1.1 hq).1); clear hnn1))
      go_roundw
      case rel => exact ⟨k + 1, l ++ [UInt8.ofNat q], by omega, by go_num, by rw [List.length_append, HL.out]; rfl, HN1, by rw [← bv_snoc _ _ (by omega)]; exact hown1, hu1⟩
      case measure => simp [intOf]; omega
    · have hkm : k = m := by omega
      subst hkm
      go_wp2
      go_ret
      exact ⟨_, l, rfl, HL.out, hnn.out, HO.out, hu⟩
theorem ints_of_block {w : World} {g : Nat} {l : List Int} {t : TypeId} (h : w.heap[g]? = some (.cells (l.map (Value.int .i64)).toArray t (0, 0))) : ∀ k, k < l.length → ∃ x : Int, w.cell? ⟨g, k, none⟩ = some (.int .i64 x) := by
  intro k hk
  exact ⟨l[k], by simp [World.cell?, h, hk]⟩
def DrawnI (B : Nat) (w : World) (r : Ending) (w' : World) : Prop := ∃ x : Int, r = .returned (.int .i64 x) ∧ Cur w' B ∧ Oth B w w'
theorem l1PickInt_any (B g cap : Nat) (l : List Int) (t : TypeId) (w : World) (hc : Cur w B) (hg : g ≠ B) (h : w.heap[g]? = some (.cells (l.map (Value.int .i64)).toArray t (0, 0))) (h0 : 0 < l.length) (h1 : l.length ≤ 256) :
    Calls Try.prog 55 #[.pointer (some ⟨B, 0, none⟩), .slice (some ⟨g, 0, none⟩) l.length cap] w (DrawnI B w) := by
  obtain ⟨n, hn⟩ : ∃ n, n = l.length := ⟨_, rfl⟩
  rw [← hn] at h0 h1 ⊢
  have HN := Lib.hid hn; clear hn
  have HH := Lib.hid h; clear h
  go_enter Try.func55, Try.ntmps55
  go_wp2_with fail
  refine (l1Below_any B n w hc (by omega) (by omega)).mono ?_
  rintro r w1 ⟨x, rfl, hx0, hx1, hc1, ho1⟩
  obtain ⟨k, rfl⟩ := Int.eq_ofNat_of_zero_le hx0
  have hgl : g < w.heap.size := box_lt HH.out
  have hb := (ho1.block hgl hg).trans HH.out
  obtain ⟨x, hx⟩ := ints_of_block hb k (by have := HN.out; omega)
  clear hb
  go_wp2
  go_ret
  exact ⟨x, rfl, hc1, ho1⟩
def DrawnO (B : Nat) (w : World) (r : Ending) (w' : World) : Prop := ∃ b : Bool, r = .returned (.bool b) ∧ Cur w' B ∧ Oth B w w'
theorem l1Once_any (B : Nat) (n : Int) (w : World) (hc : Cur w B) (h0 : 0 < n) (h1 : n ≤ 256) :
    Calls Try.prog 170 #[.pointer (some ⟨B, 0, none⟩), .int .i64 n] w (DrawnO B w) := by
  go_enter Try.func170, Try.ntmps170
  go_wp2_with fail
  refine (l1Below_any B n w hc h0 h1).mono ?_
  rintro r w1 ⟨x, rfl, hx0, hx1, hc1, ho1⟩
  go_wp2
  go_ret
  exact ⟨_, rfl, hc1, ho1⟩
end Go.Proofs.Ytigmdaiecdoimaa

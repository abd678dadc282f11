/- The cursor from which the laws draw: each draw is a number within its bounds; nothing but the cursor is written. -/
import Derived.Test.YtbgejldjgkihaaaSl
import Derived.Laws.Bits128
import Derived.Deep.RegionHeld
namespace Go.Proofs.Ytbgejldjgkihaaa
set_option linter.unusedSimpArgs false
set_option linter.unusedVariables false
open Go.ChangeShapes Go.WideShapes Go.ChangeAt Go.RowKit Go.BigFrame

@[go_sem] theorem i64_and255 (n : Int) : bits .and .i64 n 255 = n % 256 := by
  have h127 : (BitVec.ofInt 64 255).toNat = 2 ^ 8 - 1 := by decide
  have key : (BitVec.ofInt 64 n &&& BitVec.ofInt 64 255).toNat = (n % ((2 ^ 64 : Nat) : Int)).toNat % 2 ^ 8 := by
    rw [BitVec.toNat_and, BitVec.toNat_ofInt, h127, Nat.and_two_pow_sub_one_eq_mod]
  show IntKind.i64.wrap ((BitVec.ofInt 64 n &&& BitVec.ofInt 64 255).toNat : Nat) = n % 256
  rw [key, IntKind.wrap_i64]
  omega
@[go_sem] theorem i64_and30 (n : Int) : bits .and .i64 n 1073741823 = n % 1073741824 := by
  have h127 : (BitVec.ofInt 64 1073741823).toNat = 2 ^ 30 - 1 := by decide
  have key : (BitVec.ofInt 64 n &&& BitVec.ofInt 64 1073741823).toNat = (n % ((2 ^ 64 : Nat) : Int)).toNat % 2 ^ 30 := by
    rw [BitVec.toNat_and, BitVec.toNat_ofInt, h127, Nat.and_two_pow_sub_one_eq_mod]
  show IntKind.i64.wrap ((BitVec.ofInt 64 n &&& BitVec.ofInt 64 1073741823).toNat : Nat) = n % 1073741824
  rw [key, IntKind.wrap_i64]
  omega

/-! ### what a draw may change -/
/-- Nothing that was there is changed but block B. -/
def Oth (B : Nat) (w w' : World) : Prop := w.grownBy w' (some B)
theorem Oth.refl (B : Nat) (w : World) : Oth B w w := ⟨rfl, rfl, rfl, Nat.le_refl _, fun _ _ _ => rfl⟩
theorem Oth.size {B : Nat} {w w' : World} (h : Oth B w w') : w.heap.size ≤ w'.heap.size := World.grownBy.size h
theorem Oth.block {B : Nat} {w w' : World} (h : Oth B w w') {b : Nat} (hb : b < w.heap.size) (hn : b ≠ B) : w'.heap[b]? = w.heap[b]? := World.grownBy.block h b hb (by simpa using hn)
theorem Oth.trans {B : Nat} {w w1 w2 : World} (h : Oth B w w1) (k : Oth B w1 w2) : Oth B w w2 :=
  ⟨(World.grownBy.os k).trans (World.grownBy.os h), (World.grownBy.tape k).trans (World.grownBy.tape h), (World.grownBy.output k).trans (World.grownBy.output h), Nat.le_trans h.size k.size,
    fun b hb hn => (World.grownBy.block k b (Nat.lt_of_lt_of_le hb h.size) hn).trans (World.grownBy.block h b hb hn)⟩
theorem Oth.of_below {B : Nat} {w w' : World} (h : Below w.heap.size w w') : Oth B w w' := ⟨h.os, h.tape, h.output, h.size, fun b hb _ => h.block b hb⟩
theorem Oth.setCell {B o : Nat} {w w' : World} (h : Oth B w w') (v : Value) : Oth B w (w'.setCell ⟨B, o, none⟩ v) := by
  refine h.trans ⟨rfl, rfl, rfl, by simp, fun b hb hn => ?_⟩
  exact heap_setCell_other w' ⟨B, o, none⟩ b v (fun e => hn (by simp [e]))
theorem Oth.below {B n : Nat} {w w' : World} (h : Oth B w w') (hn : n ≤ B) (hs : B < w.heap.size) : Below n w w' :=
  ⟨World.grownBy.os h, World.grownBy.tape h, World.grownBy.output h, h.size, fun b hb => h.block (by omega) (by omega)⟩

/-- The slice holds bytes. -/
def Bys (w : World) (B : Nat) (a : Option Addr) (n : Nat) : Prop := ∀ k, k < n → ∃ b off, a = some ⟨b, off, none⟩ ∧ b < B ∧ ∃ x : Int, 0 ≤ x ∧ x ≤ 255 ∧ w.cell? ⟨b, off + k, none⟩ = some (.int .u8 x)
theorem Bys.oth {w w' : World} {B n : Nat} {a : Option Addr} (h : Bys w B a n) (ho : Oth B w w') (hB : B ≤ w.heap.size) : Bys w' B a n := by
  intro k hk
  obtain ⟨b, off, e, hb, y, hy0, hy1, cy⟩ := h k hk
  refine ⟨b, off, e, hb, y, hy0, hy1, ?_⟩
  have := ho.block (b := b) (by omega) (by omega)
  exact (World.cell?_of_block (w := w) (a := ⟨b, off + k, none⟩) this).trans cy
/-- Block B is a cursor. -/
def Cur (w : World) (B : Nat) : Prop := ∃ (a : Option Addr) (n cap i : Nat) (h : Int), w.heap[B]? = some (.cells #[.slice a n cap, .int .i64 i, .int .i64 h] 128 (0, 0)) ∧ i ≤ n ∧ n ≤ 1048576 ∧ Bys w B a n
theorem Cur.lt {w : World} {B : Nat} (h : Cur w B) : B < w.heap.size := by
  obtain ⟨a, n, cap, i, x, hh, _⟩ := h
  rcases Nat.lt_or_ge B w.heap.size with h | h
  · exact h
  · rw [Array.getElem?_eq_none h] at hh; simp at hh
/-- What a draw hands back: a number within bounds; the cursor is a cursor; nothing else is changed. -/
def Drawn (B : Nat) (lo hi : Int) (w : World) (r : Ending) (w' : World) : Prop := ∃ x : Int, r = .returned (.int .i64 x) ∧ lo ≤ x ∧ x ≤ hi ∧ Cur w' B ∧ Oth B w w'

set_option maxHeartbeats 2000000 in
theorem l1Byte_any (B : Nat) (w : World) (hc : Cur w B) : Calls Try.prog 138 #[.pointer (some ⟨B, 0, none⟩)] w (Drawn B 0 255 w) := by
  have hlt := hc.lt
  obtain ⟨a, n, cap, i, h, hh, hi, hn, hb⟩ := hc
  have c0 : w.cell? ⟨B, 0, none⟩ = some (.slice a n cap) := by simp [World.cell?, hh]
  have c1 : w.cell? ⟨B, 1, none⟩ = some (.int .i64 i) := by simp [World.cell?, hh]
  have c2 : w.cell? ⟨B, 2, none⟩ = some (.int .i64 h) := by simp [World.cell?, hh]
  have hfz : ∀ j, w.frozen? ⟨B, j, none⟩ = false := fun j => by simp [World.frozen?, hh]
  have HH := Lib.hid hh; clear hh
  by_cases hin : i < n
  · obtain ⟨b, off, rfl, hbB, x, hx0, hx1, cx⟩ := hb i hin
    have hbB' : b ≠ B := by omega
    go_enter Try.func138, Try.ntmps138
    go_wp2
    (refine wp_region_ext (by kernel_rfl) (by kernel_rfl) ?_; (repeat (go_big_quiet_step (fail))); refine wpQuiet_nil ?_; intro w1 hb1; obtain ⟨hc1, hf1⟩ := bcell hb1; have hz1 := hb1.size; (try simp only [World.size_alloc, World.size_setCell, World.size_drew] at hz1))
    have hB1 : B < w1.heap.size := by omega
    go_wp2
    (refine wp_region_ext (by kernel_rfl) (by kernel_rfl) ?_; (repeat (go_big_quiet_step (fail))); refine wpQuiet_nil ?_; intro w2 hb2; obtain ⟨hc2, hf2⟩ := bcell hb2; have hz2 := hb2.size; (try simp only [World.size_alloc, World.size_setCell, World.size_drew] at hz2))
    have hB2 : B < w2.heap.size := by omega
    have hb1' : b < w1.heap.size := by omega
    have hb2' : b < w2.heap.size := by omega
    have hin' : (i : Int) < n := by omega
    have cx2 : w2.cell? ⟨b, off + i, none⟩ = some (.int .u8 x) := by
      rw [hb2.cell (p := ⟨b, off + i, none⟩) hb1', hb1.cell (p := ⟨b, off + i, none⟩) (by simp; omega), World.cell?_setCell_far w ⟨B, 2, none⟩ ⟨b, off + i, none⟩ _ (Ne.symm hbB')]; exact cx
    have g1 := (hb1.block B (by simpa using hlt)).trans (heap_setCell_same w B 2 _ _ (.int .i64 (wrap64 (wrap64 (h * 6364136223846793005) + 1442695040888963407))) HH.out)
    have g2 := Lib.hid ((hb2.block B hB1).trans g1)
    have d0 : w2.cell? ⟨B, 0, none⟩ = some (.slice (some ⟨b, off, none⟩) n cap) := by simp [World.cell?, g2.out]
    have d1 : w2.cell? ⟨B, 1, none⟩ = some (.int .i64 i) := by simp [World.cell?, g2.out]
    have hfz2 : ∀ j, w2.frozen? ⟨B, j, none⟩ = false := fun j => by simp [World.frozen?, g2.out]
    clear hc1 hc2 hf1 hf2 g1 c0 c1 c2 hfz
    go_wp2
    (refine wp_region_ext (by kernel_rfl) (by kernel_rfl) ?_; (repeat (go_big_quiet_step (fail))); refine wpQuiet_nil ?_; intro w3 hb3; obtain ⟨hc3, hf3⟩ := bcell hb3; have hz3 := hb3.size; (try simp only [World.size_alloc, World.size_setCell, World.size_drew] at hz3))
    have hB3 : B < w3.heap.size := by omega
    go_wp2
    go_ret
    have g3 := (hb3.block B hB2).trans g2.out
    have hO : Oth B w (w3.setCell ⟨B, 1, none⟩ (.int .i64 (i + 1 : Nat))) := ((((Oth.refl B w).setCell _).trans (Oth.of_below hb1)).trans ((Oth.of_below hb2).trans (Oth.of_below hb3))).setCell _
    refine ⟨_, rfl, by omega, by omega, ⟨_, n, cap, i + 1, _, heap_setCell_same w3 B 1 _ _ (.int .i64 (i + 1 : Nat)) g3, by omega, hn, ?_⟩, ?_⟩
    · exact hb.oth hO (by omega)
    · exact hO
  · have hin' : ¬ (i : Int) < n := by omega
    go_enter Try.func138, Try.ntmps138
    go_wp2
    (refine wp_region_ext (by kernel_rfl) (by kernel_rfl) ?_; (repeat (go_big_quiet_step (fail))); refine wpQuiet_nil ?_; intro w1 hb1; obtain ⟨hc1, hf1⟩ := bcell hb1; have hz1 := hb1.size; (try simp only [World.size_alloc, World.size_setCell, World.size_drew] at hz1))
    have hB1 : B < w1.heap.size := by omega
    go_wp2
    (refine wp_region_ext (by kernel_rfl) (by kernel_rfl) ?_; (repeat (go_big_quiet_step (fail))); refine wpQuiet_nil ?_; intro w2 hb2; obtain ⟨hc2, hf2⟩ := bcell hb2; have hz2 := hb2.size; (try simp only [World.size_alloc, World.size_setCell, World.size_drew] at hz2))
    go_wp2
    go_ret
    have g1 := (hb1.block B (by simpa using hlt)).trans (heap_setCell_same w B 2 _ _ (.int .i64 (wrap64 (wrap64 (h * 6364136223846793005) + 1442695040888963407))) HH.out)
    have g2 := (hb2.block B hB1).trans g1
    have hO : Oth B w w2 := (((Oth.refl B w).setCell _).trans (Oth.of_below hb1)).trans (Oth.of_below hb2)
    exact ⟨_, rfl, by omega, by omega, ⟨a, n, cap, i, _, g2, hi, hn, hb.oth hO (by omega)⟩, hO⟩

/-- A number within bounds; what was there is as it was. -/
def Given (lo hi : Int) (w : World) (r : Ending) (w' : World) : Prop := ∃ x : Int, r = .returned (.int .i64 x) ∧ lo ≤ x ∧ x ≤ hi ∧ Below w.heap.size w w'

/-! ### numbers below a bound -/
set_option maxHeartbeats 2000000 in
theorem l1Below_any (B : Nat) (n : Int) (w : World) (hc : Cur w B) (h0 : 0 < n) (h1 : n ≤ 256) : Calls Try.prog 100 #[.pointer (some ⟨B, 0, none⟩), .int .i64 n] w (Drawn B 0 (n - 1) w) := by
  have hn0 : ¬ n ≤ 0 := by omega
  have hn1 : 1 ≤ n := by omega
  go_enter Try.func100, Try.ntmps100
  go_wp2_with fail
  refine (l1Byte_any B w hc).mono ?_
  rintro r w1 ⟨x, rfl, hx0, hx1, hc1, ho1⟩
  have hm0 : 0 ≤ x % n := Int.emod_nonneg _ (by omega)
  have hm1 : x % n < n := Int.emod_lt_of_pos _ h0
  go_wp2
  go_ret
  exact ⟨_, rfl, by omega, by omega, hc1, ho1⟩

set_option maxRecDepth 100000 in
set_option maxHeartbeats 2000000 in
theorem l1Below_big (B : Nat) (n : Int) (w : World) (hc : Cur w B) (h0 : 256 < n) (h1 : n ≤ 4294967296) : Calls Try.prog 100 #[.pointer (some ⟨B, 0, none⟩), .int .i64 n] w (Drawn B 0 (n - 1) w) := by
  have hn0 : ¬ n ≤ 0 := by omega
  have hn1 : ¬ n ≤ 256 := by omega
  have hn2 : 1 ≤ n := by omega
  go_enter Try.func100, Try.ntmps100
  go_wp2_with fail
  refine (l1Byte_any B w hc).mono ?_
  rintro r w1 ⟨x, rfl, hx0, hx1, hc1, ho1⟩
  go_wp2_with fail
  refine (l1Byte_any B w1 hc1).mono ?_
  rintro r w2 ⟨y, rfl, hy0, hy1, hc2, ho2⟩
  go_wp2_with fail
  refine (l1Byte_any B w2 hc2).mono ?_
  rintro r w3 ⟨z, rfl, hz0, hz1, hc3, ho3⟩
  go_wp2_with fail
  refine (l1Byte_any B w3 hc3).mono ?_
  rintro r w4 ⟨u, rfl, hu0, hu1, hc4, ho4⟩
  have hm0 : 0 ≤ (x * 16777216 + y * 65536 + z * 256 + u) % n := Int.emod_nonneg _ (by omega)
  have hm1 : (x * 16777216 + y * 65536 + z * 256 + u) % n < n := Int.emod_lt_of_pos _ (by omega)
  go_wp2
  go_ret
  exact ⟨_, rfl, by omega, by omega, hc4, ((ho1.trans ho2).trans ho3).trans ho4⟩

/-! ### the code that came in -/
/-- The bytes that a law was given. -/
def Code (w : World) (a : Option Addr) (n : Nat) : Prop := ∀ k, k < n → ∃ b off, a = some ⟨b, off, none⟩ ∧ b < w.heap.size ∧ ∃ x : Int, 0 ≤ x ∧ x ≤ 255 ∧ w.cell? ⟨b, off + k, none⟩ = some (.int .u8 x)
theorem Code.keep {w w' : World} {a : Option Addr} {n : Nat} (h : Code w a n) (hb : Below w.heap.size w w') : Code w' a n := by
  intro k hk
  obtain ⟨b, off, e, hb1, y, hy0, hy1, cy⟩ := h k hk
  exact ⟨b, off, e, Nat.lt_of_lt_of_le hb1 hb.size, y, hy0, hy1, (hb.cell (p := ⟨b, _, none⟩) hb1).trans cy⟩
/-! ### opening the code -/
@[reducible] def byCs (x : Int) : List Value := [.int .u8 x]
def ByOk (x : Int) : Prop := 0 ≤ x ∧ x ≤ 255
theorem code_of {w : World} {a : Option Addr} {cap : Nat} {xs : List Int} (h : (⟨a, cap, xs⟩ : SlArg Int).ok 1 byCs ByOk w) : Code w a xs.length := by
  intro k hk
  obtain ⟨b, off, e, hb, hc⟩ := h.sl k xs[k] (List.getElem?_eq_getElem hk)
  exact ⟨b, off, e, hb, xs[k], (h.each _ (List.getElem_mem hk)).1, (h.each _ (List.getElem_mem hk)).2, by simpa using hc 0 _ rfl⟩
theorem flat_bytes : flat Try.prog 9 22 = some [.sl [CK.int .u8]] := by kernel_rfl
theorem cells_bytes : Try.prog.cellsOf 22 = 1 := by kernel_rfl
set_option maxRecDepth 100000 in
theorem openBytes {H : Type} {enc : TypeId × Value → H} {W : World} {base : Nat} {sp : Nat → Bool} {v : Value} {d : DataW H} {ps : List MemPlace}
    (hv : Value.okWide Try.prog W .any base 22 v) (h : DataW.Trod enc Try.prog W 0 sp true 22 v d ps) : ∃ x : SlArg Int, v = x.val ∧ x.ok 1 byCs ByOk W := by
  obtain ⟨a0, len, cap, rfl⟩ := okWide_slice Try.underlying22 hv
  obtain ⟨x, hx, hk⟩ := flat_trod flat_bytes cells_bytes h 0 _ rfl
  simp only [Value.cells, List.getElem?_cons_zero, Option.some.injEq] at hx
  subst hx
  refine sl_open (hk 2) rfl (by omega) (fun _ => rfl) fun l hl hj => ?_
  match l, hl with
  | [c], _ =>
    obtain ⟨x0, e0, h0⟩ := hj 0 _ rfl
    obtain ⟨n0, rfl, w0⟩ := ok_int h0
    simp at e0
    exact ⟨n0, by simp [byCs, e0], by simpa [Lit.wf, IntKind.min, IntKind.max, IntKind.signed, IntKind.bits, ByOk] using w0⟩
/-- A cursor that the call itself has laid. -/
def NewCur (w : World) (r : Ending) (w' : World) : Prop := ∃ B, r = .returned (.pointer (some ⟨B, 0, none⟩)) ∧ w.heap.size ≤ B ∧ Cur w' B ∧ Below w.heap.size w w'
theorem newCur_mk {w : World} {a : Option Addr} {n cap : Nat} {m : Int} (h : Code w a n) (hn : n ≤ 1048576) :
    NewCur w (.returned (.pointer (some ⟨w.heap.size, 0, none⟩))) (w.alloc (.cells #[.slice a n cap, .int .i64 0, .int .i64 m] 128)) := by
  refine ⟨w.heap.size, rfl, Nat.le_refl _, ⟨a, n, cap, 0, m, heap_alloc_new w _, Nat.zero_le _, hn, ?_⟩, (Below.refl _ _).alloc (Nat.le_refl _) _⟩
  intro k hk
  obtain ⟨b, off, e, hb, y, hy0, hy1, cy⟩ := h k hk
  exact ⟨b, off, e, hb, y, hy0, hy1, ((Below.refl w.heap.size w).alloc (Nat.le_refl _) _).cell (p := ⟨b, _, none⟩) hb |>.trans cy⟩
set_option maxRecDepth 100000 in
set_option maxHeartbeats 2000000 in
theorem l1New_any (a : Option Addr) (cap n : Nat) (w : World) (h : Code w a n) (hn : n ≤ 1048576) : Calls Try.prog 44 #[.slice a n cap] w (NewCur w) := by
  go_enter Try.func44, Try.ntmps44
  go_wp2
  go_loop [3, 4] (fun t i => ∃ k : Nat, k ≤ n ∧ i = .int .i64 k ∧ ∃ m : Int, t = .int .i64 m) (fun _ i => n - (intOf i).toNat)
  case atStart => exact ⟨0, Nat.zero_le _, rfl, _, rfl⟩
  case round =>
    obtain ⟨k, hk, rfl, m, rfl⟩ := hrel
    by_cases hlt : k < n
    · obtain ⟨b, off, rfl, hb, x, hx0, hx1, cx⟩ := h k hlt
      by_cases h4 : k < 4000
      · go_wp2
        go_round
        case rel => exact ⟨k + 1, by omega, by go_num, _, rfl⟩
        case measure => simp [intOf]; omega
      · go_wp2
        go_ret
        exact newCur_mk h hn
    · go_wp2
      go_ret
      exact newCur_mk h hn
theorem big_any (a : Option Addr) (cap n : Nat) (w : World) : Calls Try.prog 8 #[.slice a n cap] w fun r w' => r = .returned (.bool (decide (1048576 < (n : Int)))) ∧ w = w' := by
  go_enter Try.func8, Try.ntmps8
  go_wp2
  go_ret
  exact ⟨ret_bool (by simp), rfl⟩
theorem Code.tail {w : World} {b off n : Nat} (h : Code w (some ⟨b, off, none⟩) n) : Code w (some ⟨b, off + 1, none⟩) (n - 1) := by
  intro k hk
  obtain ⟨b', off', e, hb, y, hy0, hy1, cy⟩ := h (k + 1) (by omega)
  simp only [Option.some.injEq, Addr.mk.injEq, and_true] at e
  obtain ⟨rfl, rfl⟩ := e
  exact ⟨b, off + 1, rfl, hb, y, hy0, hy1, by rw [show off + 1 + k = off + (k + 1) by omega]; exact cy⟩
/-- A shorter code. -/
def Shorter (w : World) (r : Ending) (w' : World) : Prop := ∃ a n cap, r = .returned (.slice a n cap) ∧ n ≤ 1048576 ∧ Code w a n ∧ w = w'
/-- A number of 64 bits; the cursor is a cursor; nothing else is changed. -/
def DrawnU (B : Nat) (w : World) (r : Ending) (w' : World) : Prop := ∃ u : Int, r = .returned (.int .u64 u) ∧ WU64 u ∧ Cur w' B ∧ Oth B w w'
theorem wu64_small {u : Int} (h0 : 0 ≤ u) (h1 : u ≤ 1000000) : WU64 u := by
  unfold WU64; simp [Lit.wf, IntKind.min, IntKind.max, IntKind.signed, IntKind.bits]; omega
theorem wrap_wu64 (n : Int) : WU64 (IntKind.u64.wrap n) := by
  rw [IntKind.wrap_u64]; unfold WU64; simp [Lit.wf, IntKind.min, IntKind.max, IntKind.signed, IntKind.bits]; omega
theorem Cur.below {w w' : World} {B : Nat} (h : Cur w B) (hb : Below w.heap.size w w') : Cur w' B := by
  have hlt := h.lt
  obtain ⟨a, n, cap, i, x, hh, hi, hn, hby⟩ := h
  exact ⟨a, n, cap, i, x, (hb.block B hlt).trans hh, hi, hn, hby.oth (Oth.of_below hb) (by omega)⟩
theorem wu64_cell {w : World} {b k : Nat} {cs : Array Value} {t : TypeId} (hb : w.heap[b]? = some (.cells cs t (0, 0))) {u : Int} (h : cs[k]? = some (.int .u64 u)) : w.cell? ⟨b, k, none⟩ = some (.int .u64 u) := by simp [World.cell?, hb, h]
theorem twelve {w : World} {b k : Nat} {t : TypeId} (hk : k < 12) (hb : w.heap[b]? = some (.cells #[.int .u64 0, .int .u64 1, .int .u64 127, .int .u64 128, .int .u64 16383, .int .u64 16384, .int .u64 2147483647, .int .u64 4294967295, .int .u64 4294967296, .int .u64 9223372036854775807, .int .u64 9223372036854775808, .int .u64 18446744073709551615] t (0, 0))) :
    ∃ u : Int, WU64 u ∧ w.cell? ⟨b, k, none⟩ = some (.int .u64 u) := by
  match k, hk with
  | 0, _ => exact ⟨_, by unfold WU64; decide, wu64_cell hb rfl⟩
  | 1, _ => exact ⟨_, by unfold WU64; decide, wu64_cell hb rfl⟩
  | 2, _ => exact ⟨_, by unfold WU64; decide, wu64_cell hb rfl⟩
  | 3, _ => exact ⟨_, by unfold WU64; decide, wu64_cell hb rfl⟩
  | 4, _ => exact ⟨_, by unfold WU64; decide, wu64_cell hb rfl⟩
  | 5, _ => exact ⟨_, by unfold WU64; decide, wu64_cell hb rfl⟩
  | 6, _ => exact ⟨_, by unfold WU64; decide, wu64_cell hb rfl⟩
  | 7, _ => exact ⟨_, by unfold WU64; decide, wu64_cell hb rfl⟩
  | 8, _ => exact ⟨_, by unfold WU64; decide, wu64_cell hb rfl⟩
  | 9, _ => exact ⟨_, by unfold WU64; decide, wu64_cell hb rfl⟩
  | 10, _ => exact ⟨_, by unfold WU64; decide, wu64_cell hb rfl⟩
  | 11, _ => exact ⟨_, by unfold WU64; decide, wu64_cell hb rfl⟩
end Go.Proofs.Ytbgejldjgkihaaa

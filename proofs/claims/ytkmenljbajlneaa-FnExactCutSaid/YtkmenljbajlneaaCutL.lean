/- FnExactCut: for every string and every slice of sizes the program's Cut returns what the reference's returns, in memory of its own, and the sizes are left as they were. No condition. -/
import Derived.Test.YtkmenljbajlneaaCut
namespace Go.Proofs.Ytkmenljbajlneaa.fnExactCut
set_option linter.unusedSimpArgs false
set_option linter.unusedVariables false
open Go.ChangeShapes Go.WideShapes Go.ChangeAt Go.RowKit

theorem freshM {f : FuncId} {args : Array Value} {w : World} {s : ByteArray} {xs : List Int} {ys : List ByteArray} (h : Calls Try.prog f args w (FreshR w ((cutL s xs).flatMap sv))) (hy : ys = cutL s xs) :
    Calls Try.prog f args w fun r w' => ∃ a cap, r = .returned (.slice a ys.length cap) ∧ OwnR w' w.heap.size w'.heap.size a ys.length (ys.flatMap sv) ∧ Below w.heap.size w w' := by
  subst hy
  refine h.mono ?_
  rintro r w' ⟨a, cap, rfl, h1, h2⟩
  have e := svs_len (cutL s xs)
  rw [e] at h1 ⊢
  exact ⟨a, cap, rfl, h1, h2⟩
theorem markI (a : Option Addr) (cap n : Nat) (L : List Value) (lo hi : Nat) (w : World) (ho : OwnR w lo hi a n L) (hn : n ≤ 2097152) :
    Calls Try.prog 27 #[.slice a n cap, .int .i64 1] w fun r w' => r = .returned (.int .i64 (1 + (n : Int))) ∧ OwnR w' lo hi a n (marksI 1 n) ∧ Chg lo hi w w' :=
  markIntS_any a cap n L 1 lo hi w ho hn (by omega) (by omega)
theorem markT (a : Option Addr) (cap n : Nat) (L : List Value) (lo hi : Nat) (w : World) (ho : OwnR w lo hi a n L) (hn : n ≤ 2097152) :
    Calls Try.prog 28 #[.slice a n cap, .int .i64 1] w fun r w' => r = .returned (.int .i64 (1 + (n : Int))) ∧ OwnR w' lo hi a n (marksS 1 n) ∧ Chg lo hi w w' :=
  markStringS_any a cap n L 1 lo hi w ho hn (by omega) (by omega)
theorem heldT (a : Option Addr) (cap n : Nat) (lo hi : Nat) (w : World) (ho : OwnR w lo hi a n (marksS 1 n)) (hn : n ≤ 2097152) :
    Calls Try.prog 29 #[.slice a n cap, .int .i64 1] w fun r w' => r = .returned (.int .i64 (1 + (n : Int))) ∧ Below w.heap.size w w' :=
  heldStringS_any a cap n 1 lo hi w ho hn (by omega) (by omega)
set_option maxHeartbeats 2000000 in
theorem walk (w : World) (s : ByteArray) (hs : s.size ≤ maxLen) (x : SlArg Int) (hx : x.ok 1 iv W64 w) :
    Calls Try.prog 5 #[.string s, x.val] w fun r w' => r = .returned (.bool true) ∧ Below w.heap.size w w' := by
  obtain ⟨a, cap, xs⟩ := x
  obtain ⟨hsl, hok, hle, hcap⟩ := hx
  simp only at hsl hok hle hcap
  have hmx : xs.length ≤ maxLen := Nat.le_trans hle hcap
  unfold maxLen at hs hmx
  by_cases hq : s.size ≤ 1048576 ∧ xs.length ≤ 1048576
  · obtain ⟨hl, hn⟩ := hq
    obtain ⟨ys, hy⟩ : ∃ ys, ys = cutL s xs := ⟨_, rfl⟩
    have hm2 : ys.length ≤ 2097152 := by have := cutL_len xs s; rw [hy]; omega
    have hm : ys.length ≤ 1048577 := by have := cutL_len xs s; rw [hy]; omega
    have HY := Lib.hid hy; clear hy
    go_enter Try.func5, Try.ntmps5
    have hT0 : Below w.heap.size w w := Below.refl _ _
    go_wp2_with fail
    refine (toIntS_any a cap _ xs _ (Sl.keep hsl hT0) rfl hn).mono ?_
    rintro r w1 ⟨a1, cap1, rfl, ho1, hb1⟩
    have hT1 : Below w.heap.size w w1 := hT0.trans (hb1.mono hT0.size)
    have hz1 := hb1.size
    have hs1 := ints_of_own ho1 rfl; clear ho1
    skip
    go_wp2_with fail
    refine (freshM (specCut_any s a1 cap1 _ xs _ hs1 rfl hn hl) HY.out).mono ?_
    rintro r w2 ⟨a2, cap2, rfl, R2_2, hb2⟩
    have hT2 : Below w.heap.size w w2 := hT1.trans (hb2.mono hT1.size)
    have hz2 := hb2.size
    clear hs1
    skip
    go_wp2_with fail
    refine (toIntS_any a cap _ xs _ (Sl.keep hsl hT2) rfl hn).mono ?_
    rintro r w3 ⟨a3, cap3, rfl, ho3, hb3⟩
    have hT3 : Below w.heap.size w w3 := hT2.trans (hb3.mono hT2.size)
    have hz3 := hb3.size
    have R2_3 := R2_2.keep hb3; clear R2_2
    have hs3 := ints_of_own ho3 rfl
    have R3_3 := OwnR.of_owns ho3; clear ho3
    skip
    go_wp2_with fail
    refine (freshM (implCut_any s a3 cap3 _ xs _ hs3 rfl hn hl) HY.out).mono ?_
    rintro r w4 ⟨a4, cap4, rfl, R4_4, hb4⟩
    have hT4 : Below w.heap.size w w4 := hT3.trans (hb4.mono hT3.size)
    have hz4 := hb4.size
    have R2_4 := R2_3.keep hb4; clear R2_3
    have R3_4 := R3_3.keep hb4; clear R3_3
    clear hs3
    skip
    go_wp2_with fail
    refine (eqStringS_same a4 a2 _ _ _ ys _ (OwnR.sl sv_len R4_4) (OwnR.sl sv_len R2_4) rfl hm).mono ?_
    rintro r w5 ⟨rfl, hb5⟩
    have hT5 : Below w.heap.size w w5 := hT4.trans (hb5.mono hT4.size)
    have hz5 := hb5.size
    have R2_5 := R2_4.keep hb5; clear R2_4
    have R3_5 := R3_4.keep hb5; clear R3_4
    have R4_5 := R4_4.keep hb5; clear R4_4
    skip
    go_wp2_with fail
    refine (toIntS_any a cap _ xs _ (Sl.keep hsl hT5) rfl hn).mono ?_
    rintro r w6 ⟨a6, cap6, rfl, ho6, hb6⟩
    have hT6 : Below w.heap.size w w6 := hT5.trans (hb6.mono hT5.size)
    have hz6 := hb6.size
    have R2_6 := R2_5.keep hb6; clear R2_5
    have R3_6 := R3_5.keep hb6; clear R3_5
    have R4_6 := R4_5.keep hb6; clear R4_5
    have hs6 := ints_of_own ho6 rfl; clear ho6
    skip
    go_wp2_with fail
    refine (eqIntS_same a3 a6 _ _ _ xs _ (OwnR.sl iv_len R3_6) hs6 rfl hn).mono ?_
    rintro r w7 ⟨rfl, hb7⟩
    have hT7 : Below w.heap.size w w7 := hT6.trans (hb7.mono hT6.size)
    have hz7 := hb7.size
    have R2_7 := R2_6.keep hb7; clear R2_6
    have R3_7 := R3_6.keep hb7; clear R3_6
    have R4_7 := R4_6.keep hb7; clear R4_6
    clear hs6
    skip
    go_wp2_with fail
    refine (markI a3 cap3 _ _ w2.heap.size w3.heap.size _ R3_7 (by omega)).mono ?_
    rintro r w8 ⟨rfl, R3_8, hc8⟩
    have hz8 := hc8.size
    have hT8 : Below w.heap.size w w8 := hT7.trans ((hc8.below (by omega)).mono (by omega))
    have R2_8 := R2_7.chg hc8 (by omega); clear R2_7
    have R4_8 := R4_7.chg hc8 (by omega); clear R4_7
    clear R3_7
    skip
    go_wp2_with fail
    refine (eqStringS_same a4 a2 _ _ _ ys _ (OwnR.sl sv_len R4_8) (OwnR.sl sv_len R2_8) rfl hm).mono ?_
    rintro r w9 ⟨rfl, hb9⟩
    have hT9 : Below w.heap.size w w9 := hT8.trans (hb9.mono hT8.size)
    have hz9 := hb9.size
    have R2_9 := R2_8.keep hb9; clear R2_8
    have R3_9 := R3_8.keep hb9; clear R3_8
    have R4_9 := R4_8.keep hb9; clear R4_8
    skip
    go_wp2_with fail
    refine (markT a4 cap4 _ _ w3.heap.size w4.heap.size _ R4_9 hm2).mono ?_
    rintro r w10 ⟨rfl, R4_10, hc10⟩
    have hz10 := hc10.size
    have hT10 : Below w.heap.size w w10 := hT9.trans ((hc10.below (by omega)).mono (by omega))
    have R2_10 := R2_9.chg hc10 (by omega); clear R2_9
    have R3_10 := R3_9.chg hc10 (by omega); clear R3_9
    clear R4_9
    skip
    go_wp2_with fail
    refine (heldT a4 cap4 _ w3.heap.size w4.heap.size _ R4_10 hm2).mono ?_
    rintro r w11 ⟨rfl, hb11⟩
    have hT11 : Below w.heap.size w w11 := hT10.trans (hb11.mono hT10.size)
    have hz11 := hb11.size
    have R2_11 := R2_10.keep hb11; clear R2_10
    have R3_11 := R3_10.keep hb11; clear R3_10
    have R4_11 := R4_10.keep hb11; clear R4_10
    skip
    go_wp2_with fail
    refine (toIntS_any a cap _ xs _ (Sl.keep hsl hT11) rfl hn).mono ?_
    rintro r w12 ⟨a12, cap12, rfl, ho12, hb12⟩
    have hT12 : Below w.heap.size w w12 := hT11.trans (hb12.mono hT11.size)
    have hz12 := hb12.size
    have R2_12 := R2_11.keep hb12; clear R2_11
    have R3_12 := R3_11.keep hb12; clear R3_11
    have R4_12 := R4_11.keep hb12; clear R4_11
    have hs12 := ints_of_own ho12 rfl; clear ho12
    skip
    go_wp2_with fail
    refine (freshM (implCut_any s a12 cap12 _ xs _ hs12 rfl hn hl) HY.out).mono ?_
    rintro r w13 ⟨a13, cap13, rfl, R5_13, hb13⟩
    have hT13 : Below w.heap.size w w13 := hT12.trans (hb13.mono hT12.size)
    have hz13 := hb13.size
    have R2_13 := R2_12.keep hb13; clear R2_12
    have R3_13 := R3_12.keep hb13; clear R3_12
    have R4_13 := R4_12.keep hb13; clear R4_12
    clear hs12
    skip
    go_wp2_with fail
    refine (eqStringS_same a13 a2 _ _ _ ys _ (OwnR.sl sv_len R5_13) (OwnR.sl sv_len R2_13) rfl hm).mono ?_
    rintro r w14 ⟨rfl, hb14⟩
    have hT14 : Below w.heap.size w w14 := hT13.trans (hb14.mono hT13.size)
    have hz14 := hb14.size
    have R2_14 := R2_13.keep hb14; clear R2_13
    have R3_14 := R3_13.keep hb14; clear R3_13
    have R4_14 := R4_13.keep hb14; clear R4_13
    have R5_14 := R5_13.keep hb14; clear R5_13
    skip
    go_wp2_with fail
    refine (heldT a4 cap4 _ w3.heap.size w4.heap.size _ R4_14 hm2).mono ?_
    rintro r w15 ⟨rfl, hb15⟩
    have hT15 : Below w.heap.size w w15 := hT14.trans (hb15.mono hT14.size)
    have hz15 := hb15.size
    have R2_15 := R2_14.keep hb15; clear R2_14
    have R3_15 := R3_14.keep hb15; clear R3_14
    have R4_15 := R4_14.keep hb15; clear R4_14
    have R5_15 := R5_14.keep hb15; clear R5_14
    skip
    go_wp2
    go_ret
    exact ⟨rfl, hT15⟩
  · go_enter Try.func5, Try.ntmps5
    go_wp2
    all_goals
      go_ret
      exact ⟨rfl, by ((repeat (first | (with_reducible exact Below.refl _ _) | (with_reducible assumption) | (with_reducible refine Below.alloc ?_ ?_ _) | (with_reducible refine Below.setCell ?_ ?_ _) | (with_reducible refine Below.drew ?_) | (with_reducible refine below_setRow ?_ ?_ _) | (refine Below.trans ?_ (Below.mono (by assumption) ?_)))); all_goals (first | omega | (simp; done) | (simp; omega)))⟩
set_option maxRecDepth 100000 in
theorem lifted (os : Os) (started : os.Started) (H : Type) (enc : TypeId × Value → H) :
    ReturnsInHanded {} Try.checked os 5 .any (Rows.fnExactCutSpec.pre6 enc Try.prog Try.f5 Rows.fnExactCutRow.domain false) (Rows.fnExactCutSpec.post enc Try.prog Try.f5 false true false false) := by
  refine returnsInHanded_of_change (C := Try.checked) own started (by kernel_rfl) Try.func5
    (ChangeSpec.witness6 (enc := enc) (C := Try.checked) false ⟨#[], #[.string ByteArray.empty, .slice none 0 0], []⟩ 8 (by kernel_rfl) (by kernel_rfl) (by kernel_rfl) (by kernel_rfl)) ?_
  intro W base args ds gs before hval0 hW hcnd _
  have hval : ∀ (j : Nat) t v, Try.f5.params[j]? = some t → args[j]? = some v → Value.okWide Try.prog W .any base t v := hval0
  have hW' := hW
  obtain ⟨p, q, hA0, hV, rfl, hfz, hnd⟩ := hW
  have hA : DataW.TrodAll enc Try.prog W 0 (fun _ => true) true Try.f5.params.toList args.toList ds p := hA0
  rw [Try.params5] at hA hval
  obtain ⟨v0, vs0, d0, ds0, p0, q0, hargs, rfl, rfl, h0, r0⟩ := trodAll_cons hA
  obtain ⟨v1, vs1, d1, ds1, p1, q1, rfl, rfl, rfl, h1, r1⟩ := trodAll_cons r0
  obtain ⟨rfl, rfl, rfl⟩ := trodAll_nil r1
  obtain rfl : args = #[v0, v1] := by cases args; simp_all
  obtain ⟨rfl, rfl⟩ := trodVars_none hV
  have k0 := h0
  have lt0 : ∀ x ∈ p0, x.block < W.heap.size := by obtain ⟨m, hm⟩ := k0; exact DataW.trod_lt m _ _ _ hm
  obtain ⟨x0, e0, w0⟩ := openStr Try.underlying9 (hval 0 9 v0 rfl rfl) h0
  subst e0
  have k1 := h1
  have lt1 : ∀ x ∈ p1, x.block < W.heap.size := by obtain ⟨m, hm⟩ := k1; exact DataW.trod_lt m _ _ _ hm
  obtain ⟨x1, e1, w1⟩ := openInts (hval 1 35 v1 rfl rfl) h1
  subst e1
  clear hA0 hval0
  refine (walk W x0 w0 x1 w1).mono fun e W' ⟨he, bel⟩ => ?_
  subst he
  exact ⟨_, rfl, _, _, _, [], _, [], hW', trodAll_mk1 (shut_bool Try.underlying4 _), (trodAll_cons_mk (Below.trod laidOut (by kernel_rfl) (of_decide_eq_true (by kernel_rfl)) k0 bel lt0) (trodAll_cons_mk (Below.trod laidOut (by kernel_rfl) (of_decide_eq_true (by kernel_rfl)) k1 bel lt1) trodAll_mk0)), rfl, bel.frame _, fun h => by cases h⟩

theorem over : Rows.fnExactCutRow.holds Try.pinned (OpenSpec.ofChange Rows.fnExactCutSpec) :=
  OpenClaim.holds_of_wide 5 Try.f5 rfl rfl rfl rfl rfl rfl rfl ⟨rfl, rfl, rfl, rfl, rfl⟩ rfl rfl rfl rfl rfl (by kernel_rfl) Try.func5 (by kernel_rfl)
    (of_decide_eq_true (by kernel_rfl)) (by unfold Func.isWrapper; first | (rw [if_pos (by decide +kernel)]; kernel_rfl) | (rw [if_neg (by decide +kernel)]; exact ⟨rfl, rfl⟩))
    (fun os started H enc _ => lifted os started H enc)

/-- The given statement. -/
theorem proved : Rows.FnExactCutSaid := over
end Go.Proofs.Ytkmenljbajlneaa.fnExactCut


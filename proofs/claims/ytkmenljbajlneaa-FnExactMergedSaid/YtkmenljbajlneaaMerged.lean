/- FnExactMerged: for every list of events the program's function returns what the reference's returns, in memory of its own, and the list is left as it was. No condition. -/
import Derived.Test.YtkmenljbajlneaaMerge
namespace Go.Proofs.Ytkmenljbajlneaa.fnExactMerged
set_option linter.unusedSimpArgs false
set_option linter.unusedVariables false
open Go.ChangeShapes Go.WideShapes Go.ChangeAt Go.RowKit Go.BigFrame

theorem shape {f : FuncId} {args : Array Value} {w : World} {zs ys : List Ev} (h : Calls Try.prog f args w (FreshEv w zs)) (hy : ys = zs) :
    Calls Try.prog f args w fun r w' => ∃ a cap, r = .returned (.slice a ys.length cap) ∧ OwnR w' w.heap.size w'.heap.size a (ys.length * 7) (ys.flatMap Ev.cs) ∧ Below w.heap.size w w' := by
  subst hy; exact h
theorem eqEv_same (a a' : Option Addr) (cap cap' n : Nat) (xs : List Ev) (w : World) (h : Evs w a xs) (h' : Evs w a' xs) (hx : xs.length = n) (hn : n ≤ 1048576) :
    Calls Try.prog 45 #[.slice a n cap, .slice a' n cap'] w fun r w' => r = .returned (.bool true) ∧ Below w.heap.size w w' :=
  (eqEventS_any a a' cap cap' n n xs xs w h h' hx hx hn hn).mono fun r w' ⟨h1, h2⟩ => ⟨by simpa using h1, h2⟩
theorem markEv (a : Option Addr) (cap n : Nat) (L : List Value) (lo hi : Nat) (w : World) (ho : OwnR w lo hi a (n * 7) L) (hn : n ≤ 1048576) :
    Calls Try.prog 48 #[.slice a n cap, .int .i64 1] w fun r w' => r = .returned (.int .i64 (1 + 7 * (n : Int))) ∧ OwnR w' lo hi a (n * 7) (marksE 1 n) ∧ Chg lo hi w w' :=
  markEventS_any a cap n L 1 lo hi w ho (by omega) (by omega) (by omega)
theorem heldEv (a : Option Addr) (cap n : Nat) (lo hi : Nat) (w : World) (ho : OwnR w lo hi a (n * 7) (marksE 1 n)) (hn : n ≤ 1048576) :
    Calls Try.prog 49 #[.slice a n cap, .int .i64 1] w fun r w' => r = .returned (.int .i64 (1 + 7 * (n : Int))) ∧ Below w.heap.size w w' :=
  heldEventS_any a cap n 1 lo hi w ho (by omega) (by omega) (by omega)
theorem own_nilcap {w : World} {base n cap size : Nat} {a : Option Addr} {t : TypeId} {xs : List Value} (h : w.ownsRow base t size (.slice a n cap) n xs) : a = none → n = 0 ∧ cap = 0 := by
  intro ha
  subst ha
  rcases h.2 with ⟨e, h0⟩ | ⟨g, cap', cur, e, _⟩
  · simp only [Value.slice.injEq] at e; omega
  · simp at e
set_option maxHeartbeats 4000000 in
theorem walk (w : World) (x : SlArg Ev) (hx : x.ok 7 Ev.cs Ev.ok w) :
    Calls Try.prog 10 #[x.val] w fun r w' => r = .returned (.bool true) ∧ Below w.heap.size w w' := by
  obtain ⟨a, cap, xs⟩ := x
  obtain ⟨hsl, hok, hle, hcap⟩ := hx
  simp only at hsl hok hle hcap

  have hmx : xs.length ≤ maxLen := Nat.le_trans hle hcap
  by_cases hs : (1048576 : Int) < (xs.length : Int) + textSum xs
  · have hs' : szE 1048576 xs = -1 := by simp only [szE]; rw [if_pos hs]
    go_enter Try.func10, Try.ntmps10
    go_wp2_with (first
      | (go_at_call 41; refine (szEventS_any _ _ _ xs _ _ hsl hok rfl hmx (by omega) (by omega)).mono ?_; rintro r w1 ⟨rfl, hb1⟩; obtain ⟨hc1, hf1⟩ := bcell hb1; have hz1 := hb1.size; (try simp only [World.size_alloc, World.size_setCell, World.size_drew] at hz1)))
    go_ret
    exact ⟨rfl, by ((repeat (first | (with_reducible exact Below.refl _ _) | (with_reducible assumption) | (with_reducible refine Below.alloc ?_ ?_ _) | (with_reducible refine Below.setCell ?_ ?_ _) | (with_reducible refine Below.drew ?_) | (with_reducible refine below_setRow ?_ ?_ _) | (refine Below.trans ?_ (Below.mono (by assumption) ?_)))); all_goals (first | omega | (simp; done) | (simp; omega)))⟩
  · have hn : xs.length ≤ 1048576 := by omega
    have hm : textSum xs ≤ 1048576 := by omega
    have hs' : 0 ≤ szE 1048576 xs := by simp only [szE]; rw [if_neg hs]; omega
    obtain ⟨ys, hy⟩ : ∃ ys, ys = merged xs := ⟨_, rfl⟩
    have hy1 : ys.length ≤ 1048576 := by have := merged_len xs; rw [hy]; omega
    have HY := Lib.hid hy; clear hy
    go_enter Try.func10, Try.ntmps10
    have hT0 : Below w.heap.size w w := Below.refl _ _
    go_wp2_with fail
    refine (szEventS_any _ _ _ xs _ _ hsl hok rfl hmx (by omega) (by omega)).mono ?_
    rintro r w1 ⟨rfl, hb1⟩
    have hT1 : Below w.heap.size w w1 := hT0.trans (hb1.mono hT0.size)
    have hz1 := hb1.size
    go_wp2_with fail
    refine (toEventS_any a cap _ xs _ (Sl.keep hsl hT1) rfl hn).mono ?_
    rintro r w2 ⟨a2, cap2, rfl, ho2, hb2⟩
    have hT2 : Below w.heap.size w w2 := hT1.trans (hb2.mono hT1.size)
    have hz2 := hb2.size
    have hs2 := evs_of_own ho2 rfl
    have hn2 := own_nilcap ho2
    clear ho2
    go_wp2_with fail
    refine (shape (specMergedE a2 cap2 _ xs _ hs2 rfl hn hm hn2) HY.out).mono ?_
    rintro r w3 ⟨a3, cap3, rfl, R3_3, hb3⟩
    have hT3 : Below w.heap.size w w3 := hT2.trans (hb3.mono hT2.size)
    have hz3 := hb3.size
    clear hs2 hn2
    go_wp2_with fail
    refine (toEventS_any a cap _ xs _ (Sl.keep hsl hT3) rfl hn).mono ?_
    rintro r w4 ⟨a4, cap4, rfl, ho4, hb4⟩
    have hT4 : Below w.heap.size w w4 := hT3.trans (hb4.mono hT3.size)
    have hz4 := hb4.size
    have R3_4 := R3_3.keep hb4; clear R3_3
    have hs4 := evs_of_own ho4 rfl
    have hn4 := own_nilcap ho4
    have R4_4 := OwnR.of_ownsK ho4
    clear ho4
    go_wp2_with fail
    refine (shape (implMergedE a4 cap4 _ xs _ hs4 rfl hn hm hn4) HY.out).mono ?_
    rintro r w5 ⟨a5, cap5, rfl, R5_5, hb5⟩
    have hT5 : Below w.heap.size w w5 := hT4.trans (hb5.mono hT4.size)
    have hz5 := hb5.size
    have R3_5 := R3_4.keep hb5; clear R3_4
    have R4_5 := R4_4.keep hb5; clear R4_4
    clear hs4 hn4
    go_wp2_with fail
    refine (eqEv_same a5 a3 _ _ _ ys _ (OwnR.slK (by omega) ev_len R5_5) (OwnR.slK (by omega) ev_len R3_5) rfl hy1).mono ?_
    rintro r w6 ⟨rfl, hb6⟩
    have hT6 : Below w.heap.size w w6 := hT5.trans (hb6.mono hT5.size)
    have hz6 := hb6.size
    have R3_6 := R3_5.keep hb6; clear R3_5
    have R4_6 := R4_5.keep hb6; clear R4_5
    have R5_6 := R5_5.keep hb6; clear R5_5
    go_wp2_with fail
    refine (toEventS_any a cap _ xs _ (Sl.keep hsl hT6) rfl hn).mono ?_
    rintro r w7 ⟨a7, cap7, rfl, ho7, hb7⟩
    have hT7 : Below w.heap.size w w7 := hT6.trans (hb7.mono hT6.size)
    have hz7 := hb7.size
    have R3_7 := R3_6.keep hb7; clear R3_6
    have R4_7 := R4_6.keep hb7; clear R4_6
    have R5_7 := R5_6.keep hb7; clear R5_6
    have hs7 := evs_of_own ho7 rfl
    have hn7 := own_nilcap ho7
    clear ho7
    go_wp2_with fail
    refine (eqEv_same a4 a7 _ _ _ xs _ (OwnR.slK (by omega) ev_len R4_7) hs7 rfl hn).mono ?_
    rintro r w8 ⟨rfl, hb8⟩
    have hT8 : Below w.heap.size w w8 := hT7.trans (hb8.mono hT7.size)
    have hz8 := hb8.size
    have R3_8 := R3_7.keep hb8; clear R3_7
    have R4_8 := R4_7.keep hb8; clear R4_7
    have R5_8 := R5_7.keep hb8; clear R5_7
    clear hs7 hn7
    go_wp2_with fail
    refine (markEv a4 cap4 _ _ w3.heap.size w4.heap.size _ R4_8 hn).mono ?_
    rintro r w9 ⟨rfl, R4_9, hc9⟩
    have hz9 := hc9.size
    have hT9 : Below w.heap.size w w9 := hT8.trans ((hc9.below (by omega)).mono (by omega))
    have R3_9 := R3_8.chg hc9 (by omega); clear R3_8
    have R5_9 := R5_8.chg hc9 (by omega); clear R5_8
    clear R4_8
    go_wp2_with fail
    refine (eqEv_same a5 a3 _ _ _ ys _ (OwnR.slK (by omega) ev_len R5_9) (OwnR.slK (by omega) ev_len R3_9) rfl hy1).mono ?_
    rintro r w10 ⟨rfl, hb10⟩
    have hT10 : Below w.heap.size w w10 := hT9.trans (hb10.mono hT9.size)
    have hz10 := hb10.size
    have R3_10 := R3_9.keep hb10; clear R3_9
    have R4_10 := R4_9.keep hb10; clear R4_9
    have R5_10 := R5_9.keep hb10; clear R5_9
    go_wp2_with fail
    refine (markEv a5 cap5 _ _ w4.heap.size w5.heap.size _ R5_10 hy1).mono ?_
    rintro r w11 ⟨rfl, R5_11, hc11⟩
    have hz11 := hc11.size
    have hT11 : Below w.heap.size w w11 := hT10.trans ((hc11.below (by omega)).mono (by omega))
    have R3_11 := R3_10.chg hc11 (by omega); clear R3_10
    have R4_11 := R4_10.chg hc11 (by omega); clear R4_10
    clear R5_10
    go_wp2_with fail
    refine (heldEv a5 cap5 _ w4.heap.size w5.heap.size _ R5_11 hy1).mono ?_
    rintro r w12 ⟨rfl, hb12⟩
    have hT12 : Below w.heap.size w w12 := hT11.trans (hb12.mono hT11.size)
    have hz12 := hb12.size
    have R3_12 := R3_11.keep hb12; clear R3_11
    have R4_12 := R4_11.keep hb12; clear R4_11
    have R5_12 := R5_11.keep hb12; clear R5_11
    go_wp2_with fail
    refine (toEventS_any a cap _ xs _ (Sl.keep hsl hT12) rfl hn).mono ?_
    rintro r w13 ⟨a13, cap13, rfl, ho13, hb13⟩
    have hT13 : Below w.heap.size w w13 := hT12.trans (hb13.mono hT12.size)
    have hz13 := hb13.size
    have R3_13 := R3_12.keep hb13; clear R3_12
    have R4_13 := R4_12.keep hb13; clear R4_12
    have R5_13 := R5_12.keep hb13; clear R5_12
    have hs13 := evs_of_own ho13 rfl
    have hn13 := own_nilcap ho13
    clear ho13
    go_wp2_with fail
    refine (shape (implMergedE a13 cap13 _ xs _ hs13 rfl hn hm hn13) HY.out).mono ?_
    rintro r w14 ⟨a14, cap14, rfl, R6_14, hb14⟩
    have hT14 : Below w.heap.size w w14 := hT13.trans (hb14.mono hT13.size)
    have hz14 := hb14.size
    have R3_14 := R3_13.keep hb14; clear R3_13
    have R4_14 := R4_13.keep hb14; clear R4_13
    have R5_14 := R5_13.keep hb14; clear R5_13
    clear hs13 hn13
    go_wp2_with fail
    refine (eqEv_same a14 a3 _ _ _ ys _ (OwnR.slK (by omega) ev_len R6_14) (OwnR.slK (by omega) ev_len R3_14) rfl hy1).mono ?_
    rintro r w15 ⟨rfl, hb15⟩
    have hT15 : Below w.heap.size w w15 := hT14.trans (hb15.mono hT14.size)
    have hz15 := hb15.size
    have R3_15 := R3_14.keep hb15; clear R3_14
    have R4_15 := R4_14.keep hb15; clear R4_14
    have R5_15 := R5_14.keep hb15; clear R5_14
    have R6_15 := R6_14.keep hb15; clear R6_14
    go_wp2_with fail
    refine (heldEv a5 cap5 _ w4.heap.size w5.heap.size _ R5_15 hy1).mono ?_
    rintro r w16 ⟨rfl, hb16⟩
    have hT16 : Below w.heap.size w w16 := hT15.trans (hb16.mono hT15.size)
    have hz16 := hb16.size
    have R3_16 := R3_15.keep hb16; clear R3_15
    have R4_16 := R4_15.keep hb16; clear R4_15
    have R5_16 := R5_15.keep hb16; clear R5_15
    have R6_16 := R6_15.keep hb16; clear R6_15
    go_wp2
    go_ret
    exact ⟨rfl, hT16⟩
set_option maxRecDepth 100000 in
theorem lifted (os : Os) (started : os.Started) (H : Type) (enc : TypeId × Value → H) :
    ReturnsInHanded {} Try.checked os 10 .any (Rows.fnExactMergedSpec.pre6 enc Try.prog Try.f10 Rows.fnExactMergedRow.domain false) (Rows.fnExactMergedSpec.post enc Try.prog Try.f10 false true false false) := by
  refine returnsInHanded_of_change (C := Try.checked) own started (by kernel_rfl) Try.func10
    (ChangeSpec.witness6 (enc := enc) (C := Try.checked) false ⟨#[], #[.slice none 0 0], []⟩ 8 (by kernel_rfl) (by kernel_rfl) (by kernel_rfl) (by kernel_rfl)) ?_
  intro W base args ds gs before hval0 hW hcnd _
  have hval : ∀ (j : Nat) t v, Try.f10.params[j]? = some t → args[j]? = some v → Value.okWide Try.prog W .any base t v := hval0
  have hW' := hW
  obtain ⟨p, q, hA0, hV, rfl, hfz, hnd⟩ := hW
  have hA : DataW.TrodAll enc Try.prog W 0 (fun _ => true) true Try.f10.params.toList args.toList ds p := hA0
  rw [Try.params10] at hA hval
  obtain ⟨v0, vs0, d0, ds0, p0, q0, hargs, rfl, rfl, h0, r0⟩ := trodAll_cons hA
  obtain ⟨rfl, rfl, rfl⟩ := trodAll_nil r0
  obtain rfl : args = #[v0] := by cases args; simp_all
  obtain ⟨rfl, rfl⟩ := trodVars_none hV
  have k0 := h0
  have lt0 : ∀ x ∈ p0, x.block < W.heap.size := by obtain ⟨m, hm⟩ := k0; exact DataW.trod_lt m _ _ _ hm
  obtain ⟨x0, e0, w0⟩ := openEvs (hval 0 58 v0 rfl rfl) h0
  subst e0
  clear hA0 hval0
  refine (walk W x0 w0).mono fun e W' ⟨he, bel⟩ => ?_
  subst he
  exact ⟨_, rfl, _, _, _, [], _, [], hW', trodAll_mk1 (shut_bool Try.underlying4 _), (trodAll_cons_mk (Below.trod laidOut (by kernel_rfl) (of_decide_eq_true (by kernel_rfl)) k0 bel lt0) trodAll_mk0), rfl, bel.frame _, fun h => by cases h⟩

theorem over : Rows.fnExactMergedRow.holds Try.pinned (OpenSpec.ofChange Rows.fnExactMergedSpec) :=
  OpenClaim.holds_of_wide 10 Try.f10 rfl rfl rfl rfl rfl rfl rfl ⟨rfl, rfl, rfl, rfl, rfl⟩ rfl rfl rfl rfl rfl (by kernel_rfl) Try.func10 (by kernel_rfl)
    (of_decide_eq_true (by kernel_rfl)) (by unfold Func.isWrapper; first | (rw [if_pos (by decide +kernel)]; kernel_rfl) | (rw [if_neg (by decide +kernel)]; exact ⟨rfl, rfl⟩))
    (fun os started H enc _ => lifted os started H enc)

/-- The given statement. -/
theorem proved : Rows.FnExactMergedSaid := over
end Go.Proofs.Ytkmenljbajlneaa.fnExactMerged


/- FnVarWithin: on every drawn string and both offsets VarWithin agrees with GetVar if there is enough room, and otherwise reports the end. No condition. -/
import Derived.Test.YtigmdaiecdoimaaVwD
import Derived.Test.YtigmdaiecdoimaaGetVar
namespace Go.Proofs.Ytigmdaiecdoimaa.fnVarWithin
set_option linter.unusedSimpArgs false
set_option linter.unusedVariables false
open Go.ChangeShapes Go.WideShapes Go.ChangeAt Go.RowKit Go.BigFrame

theorem gv_bound (s : ByteArray) (a : Nat) : ∀ (f k : Nat) (u : Int), 0 ≤ (gvGo s a f k u).2.1 ∧ (gvGo s a f k u).2.1 ≤ s.size
  | 0, k, u => by simp [gvGo]
  | f + 1, k, u => by
    have ih := gv_bound s a f (k + 1) (u + (byteAt s (a + k) % 128 : Nat) * 2 ^ (7 * k))
    simp only [gvGo]
    by_cases h1 : s.size ≤ a + k
    · rw [if_pos h1]; simp
    · rw [if_neg h1]
      by_cases h2 : k = 9 ∧ 1 < byteAt s (a + k)
      · rw [if_pos h2]; simp only; omega
      · rw [if_neg h2]
        by_cases h3 : byteAt s (a + k) < 128
        · rw [if_pos h3]; simp only; omega
        · rw [if_neg h3]; exact ih
theorem far_bound (s : ByteArray) (a : Int) : 0 ≤ (getVar s a).2.1 ∧ (getVar s a).2.1 ≤ s.size := by
  unfold getVar
  split
  · exact gv_bound s _ _ _ _
  · simp
set_option maxRecDepth 100000 in
set_option maxHeartbeats 4000000 in
theorem walk (w : World) (x : SlArg Int) (hx : x.ok 1 byCs ByOk w) :
    Calls Try.prog 3 #[.slice x.a x.xs.length x.cap] w fun r w' => r = .returned (.bool true) ∧ Below w.heap.size w w' := by
  have hcode := code_of hx
  obtain ⟨a, cap, bs⟩ := x
  obtain ⟨_, _, hle, hcap⟩ := hx
  simp only at hcode hle hcap ⊢
  by_cases hbig : (1048576 : Int) < (bs.length : Int)
  · go_enter Try.func3, Try.ntmps3
    go_wp2_with (first | (go_at_call 10; refine (big_any _ _ _ _).mono ?_; rintro r w1 ⟨rfl, rfl⟩))
    go_ret
    exact ⟨rfl, by ((repeat (first | (with_reducible exact Below.refl _ _) | (with_reducible assumption) | (with_reducible refine Below.alloc ?_ ?_ _) | (with_reducible refine Below.setCell ?_ ?_ _) | (with_reducible refine Below.drew ?_) | (with_reducible refine below_setRow ?_ ?_ _) | (refine Below.trans ?_ (Below.mono (by assumption) ?_)))); all_goals (first | omega | (simp; done) | (simp; omega)))⟩
  · go_enter Try.func3, Try.ntmps3
    go_wp2_with (first | (go_at_call 10; refine (big_any _ _ _ _).mono ?_; rintro r w1 ⟨rfl, rfl⟩))
    refine (drawVarWithin_any a cap bs.length w hcode (by omega)).mono ?_
    rintro r w1 ⟨s, x, y, rfl, hs, hb1⟩
    have hs2 : s.size ≤ 1048576 := by omega
    obtain ⟨⟨u, nx, bd⟩, hV⟩ : ∃ V, V = varWithin s x y := ⟨_, rfl⟩
    have HV := Lib.hid hV; clear hV
    go_wp2_with fail
    refine (implVarWithin_any s x y w1 hs2).mono ?_
    rintro r _ ⟨rfl, rfl⟩
    rw [← HV.out]
    go_wp2_with fail
    refine (specVarWithin_any s x y w1 hs2).mono ?_
    rintro r _ ⟨rfl, rfl⟩
    rw [← HV.out]
    by_cases hin : 0 ≤ x ∧ x ≤ s.size
    · obtain ⟨⟨gu, far, told⟩, hG⟩ : ∃ G, G = getVar s x := ⟨_, rfl⟩
      have hA := agree s x y hin
      rw [← hG, ← HV.out] at hA
      have hfb := far_bound s x
      rw [← hG] at hfb
      simp only at hfb
      obtain ⟨A1, A2, A3, A4⟩ := hA
      simp only [Prod.mk.injEq] at A1 A2 A3 A4
      have HG := Lib.hid hG; clear hG
      have hfw : IntKind.i64.wrap (far + 1) = far + 1 := IntWalk.i64_in _ (by omega)
      have b0 : decide (x < 0) = false := decide_eq_false (by omega)
      have b1 : decide ((s.size : Int) < x) = false := decide_eq_false (by omega)
      by_cases ht : told = 0
      · subst ht
        by_cases hf : far ≤ y
        · obtain ⟨rfl, rfl, rfl⟩ := A1 ⟨rfl, hf⟩
          clear A1 A2 A3 A4
          go_wp2_with fail
          refine (specGetVar_any s x w1 hs2).mono ?_
          rintro r _ ⟨rfl, rfl⟩
          rw [← HG.out]
          go_wp2
          go_ret
          exact ⟨rfl, hb1⟩
        · obtain ⟨rfl, rfl, rfl⟩ := A2 ⟨rfl, hf⟩
          have hf' : decide (far ≤ nx) = false := decide_eq_false hf
          clear A1 A2 A3 A4 hf
          go_wp2_with fail
          refine (specGetVar_any s x w1 hs2).mono ?_
          rintro r _ ⟨rfl, rfl⟩
          rw [← HG.out]
          go_wp2
          go_ret
          exact ⟨rfl, hb1⟩
      · have g0 : (told == 0) = false := by simp [ht]
        by_cases hc : y ≤ s.size ∧ x ≤ y ∧ y < far + 1 ∧ told = 1
        · obtain ⟨h1, h2, h3, rfl⟩ := hc
          obtain ⟨rfl, rfl, rfl⟩ := A3 ⟨ht, h1, h3, rfl⟩
          have c1 : decide (nx ≤ (s.size : Int)) = true := decide_eq_true h1
          have c2 : decide (x ≤ nx) = true := decide_eq_true h2
          have c3 : decide (nx < far + 1) = true := decide_eq_true h3
          clear A1 A2 A3 A4 h1 h2 h3
          go_wp2_with fail
          refine (specGetVar_any s x w1 hs2).mono ?_
          rintro r _ ⟨rfl, rfl⟩
          rw [← HG.out]
          go_wp2
          go_ret
          exact ⟨rfl, hb1⟩
        · have hb : ¬ bd = 0 := A4 ht
          have gb : (bd == 0) = false := by simp [hb]
          have HBD := Lib.hid hb
          clear A1 A2 A3 A4
          by_cases h1 : y ≤ s.size
          · have c1 : decide (y ≤ (s.size : Int)) = true := decide_eq_true h1
            by_cases h2 : x ≤ y
            · have c2 : decide (x ≤ y) = true := decide_eq_true h2
              by_cases h3 : y < far + 1
              · have c3 : decide (y < far + 1) = true := decide_eq_true h3
                have c4 : (told == 1) = false := by have : ¬ told = 1 := fun e => hc ⟨h1, h2, h3, e⟩; simp [this]
                clear h1 h2 h3 hc ht hb
                go_wp2_with fail
                refine (specGetVar_any s x w1 hs2).mono ?_
                rintro r _ ⟨rfl, rfl⟩
                rw [← HG.out]
                go_wp2
                go_ret
                exact ⟨ret_bool (by simp; exact HBD.out), hb1⟩
              · have c3 : decide (y < far + 1) = false := decide_eq_false h3
                clear h1 h2 h3 hc ht hb
                go_wp2_with fail
                refine (specGetVar_any s x w1 hs2).mono ?_
                rintro r _ ⟨rfl, rfl⟩
                rw [← HG.out]
                go_wp2
                go_ret
                exact ⟨ret_bool (by simp; exact HBD.out), hb1⟩
            · have c2 : decide (x ≤ y) = false := decide_eq_false h2
              clear h1 h2 hc ht hb
              go_wp2_with fail
              refine (specGetVar_any s x w1 hs2).mono ?_
              rintro r _ ⟨rfl, rfl⟩
              rw [← HG.out]
              go_wp2
              go_ret
              exact ⟨ret_bool (by simp; exact HBD.out), hb1⟩
          · have c1 : decide (y ≤ (s.size : Int)) = false := decide_eq_false h1
            clear h1 hc ht hb
            go_wp2_with fail
            refine (specGetVar_any s x w1 hs2).mono ?_
            rintro r _ ⟨rfl, rfl⟩
            rw [← HG.out]
            go_wp2
            go_ret
            exact ⟨ret_bool (by simp; exact HBD.out), hb1⟩
    · have hVe : (u, nx, bd) = ((0 : Int), (s.size : Int), (10 : Int)) := by rw [HV.out, varWithin, if_neg hin]
      simp only [Prod.mk.injEq] at hVe
      obtain ⟨rfl, rfl, rfl⟩ := hVe
      by_cases h0 : x < 0
      · have b0 : decide (x < 0) = true := decide_eq_true h0
        clear hin
        go_wp2
        go_ret
        exact ⟨rfl, hb1⟩
      · have b0 : decide (x < 0) = false := decide_eq_false h0
        have b1 : decide ((s.size : Int) < x) = true := decide_eq_true (by omega)
        clear hin h0
        go_wp2
        go_ret
        exact ⟨rfl, hb1⟩

set_option maxRecDepth 100000 in
theorem lifted (os : Os) (started : os.Started) (H : Type) (enc : TypeId × Value → H) :
    ReturnsInHanded {} Try.checked os 3 .any (Rows.fnVarWithinSpec.pre6 enc Try.prog Try.f3 Rows.fnVarWithinRow.domain false) (Rows.fnVarWithinSpec.post enc Try.prog Try.f3 false true false false) := by
  refine returnsInHanded_of_change (C := Try.checked) own started (by kernel_rfl) Try.func3
    (ChangeSpec.witness6 (enc := enc) (C := Try.checked) false ⟨#[], #[.slice none 0 0], []⟩ 8 (by kernel_rfl) (by kernel_rfl) (by kernel_rfl) (by kernel_rfl)) ?_
  intro W base args ds gs before hval0 hW hcnd _
  have hval : ∀ (j : Nat) t v, Try.f3.params[j]? = some t → args[j]? = some v → Value.okWide Try.prog W .any base t v := hval0
  have hW' := hW
  obtain ⟨p, q, hA0, hV, rfl, hfz, hnd⟩ := hW
  have hA : DataW.TrodAll enc Try.prog W 0 (fun _ => true) true Try.f3.params.toList args.toList ds p := hA0
  rw [Try.params3] at hA hval
  obtain ⟨v0, vs0, d0, ds0, p0, q0, hargs, rfl, rfl, h0, r0⟩ := trodAll_cons hA
  obtain ⟨rfl, rfl, rfl⟩ := trodAll_nil r0
  obtain rfl : args = #[v0] := by cases args; simp_all
  obtain ⟨rfl, rfl⟩ := trodVars_none hV
  have k0 := h0
  have lt0 : ∀ x ∈ p0, x.block < W.heap.size := by obtain ⟨m, hm⟩ := k0; exact DataW.trod_lt m _ _ _ hm
  obtain ⟨x0, e0, w0⟩ := openBytes (hval 0 22 v0 rfl rfl) h0
  subst e0
  clear hA0 hval0
  refine (walk W x0 w0).mono fun e W' ⟨he, bel⟩ => ?_
  subst he
  exact ⟨_, rfl, _, _, _, [], _, [], hW', trodAll_mk1 (shut_bool Try.underlying4 _), (trodAll_cons_mk (Below.trod laidOut (by kernel_rfl) (of_decide_eq_true (by kernel_rfl)) k0 bel lt0) trodAll_mk0), rfl, bel.frame _, fun h => by cases h⟩

theorem over : Rows.fnVarWithinRow.holds Try.pinned (OpenSpec.ofChange Rows.fnVarWithinSpec) :=
  OpenClaim.holds_of_wide 3 Try.f3 rfl rfl rfl rfl rfl rfl rfl ⟨rfl, rfl, rfl, rfl, rfl⟩ rfl rfl rfl rfl rfl (by kernel_rfl) Try.func3 (by kernel_rfl)
    (of_decide_eq_true (by kernel_rfl)) (by unfold Func.isWrapper; first | (rw [if_pos (by decide +kernel)]; kernel_rfl) | (rw [if_neg (by decide +kernel)]; exact ⟨rfl, rfl⟩))
    (fun os started H enc _ => lifted os started H enc)

/-- The given statement. -/
theorem proved : Rows.FnVarWithinSaid := over
end Go.Proofs.Ytigmdaiecdoimaa.fnVarWithin

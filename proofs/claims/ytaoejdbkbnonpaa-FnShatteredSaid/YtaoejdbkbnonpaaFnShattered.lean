/- FnShattered: dividing the texts of events leaves what they merge to, for every code. No condition. -/
import Derived.Test.YtaoejdbkbnonpaaNewE
import Derived.Test.YtaoejdbkbnonpaaEvList
namespace Go.Proofs.Ytaoejdbkbnonpaa.fnShattered
set_option linter.unusedSimpArgs false
set_option linter.unusedVariables false
open Go.ChangeShapes Go.WideShapes Go.ChangeAt Go.RowKit Go.BigFrame

set_option maxHeartbeats 4000000 in
theorem walk (w : World) (x : SlArg Int) (hx : x.ok 1 byCs ByOk w) :
    Calls Try.prog 3 #[.slice x.a x.xs.length x.cap] w fun r w' => r = .returned (.bool true) ∧ Below w.heap.size w w' := by
  have hcode := code_of hx
  obtain ⟨a, cap, bs⟩ := x
  obtain ⟨_, _, hle, hcap⟩ := hx
  simp only at hcode hle hcap ⊢
  by_cases hbig : (1048576 : Int) < (bs.length : Int)
  · go_enter Try.func3, Try.ntmps3
    go_wp2_with (first | (go_at_call 14; refine (big_any _ _ _ _).mono ?_; rintro r w1 ⟨rfl, rfl⟩))
    go_ret
    exact ⟨rfl, by ((repeat (first | (with_reducible exact Below.refl _ _) | (with_reducible assumption) | (with_reducible refine Below.alloc ?_ ?_ _) | (with_reducible refine Below.setCell ?_ ?_ _) | (with_reducible refine Below.drew ?_) | (with_reducible refine below_setRow ?_ ?_ _) | (refine Below.trans ?_ (Below.mono (by assumption) ?_)))); all_goals (first | omega | (simp; done) | (simp; omega)))⟩
  · go_enter Try.func3, Try.ntmps3
    go_wp2_with (first | (go_at_call 14; refine (big_any _ _ _ _).mono ?_; rintro r w1 ⟨rfl, rfl⟩))
    refine (drawShattered_any a cap bs.length w hcode (by omega)).mono ?_
    rintro r w1 ⟨a1, cap1, xs, n, rfl, hxl, hxt, hnm, he1, hnil1, hb1⟩
    have hz1 := hb1.size
    obtain ⟨ms, hms⟩ : ∃ ms, ms = merged xs := ⟨_, rfl⟩
    obtain ⟨cs, hcs⟩ : ∃ cs, cs = shattered n xs := ⟨_, rfl⟩
    have hml : ms.length ≤ 56 ∧ textSum ms ≤ 48 := by have := merged_le xs; rw [hms]; omega
    have hcl : cs.length ≤ 56 ∧ textSum cs ≤ 48 := by have := shattered_len n xs; have := textSum_shattered n xs; rw [hcs]; omega
    have HMS := Lib.hid hms; clear hms
    have HCS := Lib.hid hcs; clear hcs
    have HE1 := Lib.hid he1; clear he1
    have HNIL := Lib.hid hnil1; clear hnil1
    go_wp2_with fail
    refine (implShatN a1 cap1 _ xs n _ HE1.out rfl (by omega) (by omega) hnm HNIL.out).mono ?_
    rw [← HCS.out]
    rintro r w2 ⟨a2, cap2, rfl, he2, hnil2, hb2⟩
    have hz2 := hb2.size
    have HF1 := Lib.hid (Sl.keep HE1.out hb2); clear HE1
    have HE2 := Lib.hid he2; clear he2
    have HNIL2 := Lib.hid hnil2; clear hnil2
    go_wp2_with fail
    refine (implShatN a2 cap2 _ cs n _ HE2.out rfl (by omega) (by omega) hnm HNIL2.out).mono ?_
    rw [show shattered n cs = cs by rw [HCS.out, shattered_twice]]
    rintro r w3 ⟨a3, cap3, rfl, he3, _, hb3⟩
    have hz3 := hb3.size
    have HE1 := Lib.hid (Sl.keep HF1.out hb3); clear HF1
    have HF2 := Lib.hid (Sl.keep HE2.out hb3); clear HE2
    have HE3 := Lib.hid he3; clear he3
    go_wp2_with fail
    refine (specShatN a1 cap1 _ xs n _ HE1.out rfl (by omega) (by omega) hnm HNIL.out).mono ?_
    rw [← HCS.out]
    rintro r w4 ⟨a4, cap4, rfl, _, _, hb4⟩
    have hz4 := hb4.size
    have HF1 := Lib.hid (Sl.keep HE1.out hb4); clear HE1
    have HE2 := Lib.hid (Sl.keep HF2.out hb4); clear HF2
    have HF3 := Lib.hid (Sl.keep HE3.out hb4); clear HE3
    go_wp2_with fail
    refine (implMergN a2 cap2 _ cs _ HE2.out rfl (by omega) (by omega)).mono ?_
    rw [show merged cs = ms by rw [HCS.out, HMS.out, merged_shattered]]
    rintro r w5 ⟨a5, cap5, rfl, he5, _, hb5⟩
    have hz5 := hb5.size
    have HE1 := Lib.hid (Sl.keep HF1.out hb5); clear HF1
    have HF2 := Lib.hid (Sl.keep HE2.out hb5); clear HE2
    have HE3 := Lib.hid (Sl.keep HF3.out hb5); clear HF3
    have HE5 := Lib.hid he5; clear he5
    go_wp2_with fail
    refine (specMergN a1 cap1 _ xs _ HE1.out rfl (by omega) (by omega)).mono ?_
    rw [← HMS.out]
    rintro r w6 ⟨a6, cap6, rfl, he6, _, hb6⟩
    have hz6 := hb6.size
    have HF5 := Lib.hid (Sl.keep HE5.out hb6); clear HE5
    have HE2 := Lib.hid (Sl.keep HF2.out hb6); clear HF2
    have HF3 := Lib.hid (Sl.keep HE3.out hb6); clear HE3 HE1
    have HE6 := Lib.hid he6; clear he6
    go_wp2_with fail
    refine (specSameEvents_any a5 a6 cap5 cap6 _ _ ms ms _ HF5.out HE6.out rfl rfl (by omega) (by omega)).mono ?_
    rintro r w7 ⟨rfl, hb7⟩
    have hz7 := hb7.size
    rw [show decide (ms = ms) = true by simp]
    have HF2 := Lib.hid (Sl.keep HE2.out hb7); clear HE2
    have HE3 := Lib.hid (Sl.keep HF3.out hb7); clear HF3 HF5 HE6
    by_cases hn1 : n < 1
    · go_wp2
      go_ret
      exact ⟨rfl, by ((repeat (first | (with_reducible exact Below.refl _ _) | (with_reducible assumption) | (with_reducible refine Below.alloc ?_ ?_ _) | (with_reducible refine Below.setCell ?_ ?_ _) | (with_reducible refine Below.drew ?_) | (with_reducible refine below_setRow ?_ ?_ _) | (refine Below.trans ?_ (Below.mono (by assumption) ?_)))); all_goals (first | omega | (simp; done) | (simp; omega)))⟩
    · go_wp2_with fail
      refine (specSameEvents_any a3 a2 cap3 cap2 _ _ cs cs _ HE3.out HF2.out rfl rfl (by omega) (by omega)).mono ?_
      rintro r w8 ⟨rfl, hb8⟩
      have hz8 := hb8.size
      rw [show decide (cs = cs) = true by simp]
      go_wp2
      go_ret
      exact ⟨rfl, by ((repeat (first | (with_reducible exact Below.refl _ _) | (with_reducible assumption) | (with_reducible refine Below.alloc ?_ ?_ _) | (with_reducible refine Below.setCell ?_ ?_ _) | (with_reducible refine Below.drew ?_) | (with_reducible refine below_setRow ?_ ?_ _) | (refine Below.trans ?_ (Below.mono (by assumption) ?_)))); all_goals (first | omega | (simp; done) | (simp; omega)))⟩
set_option maxRecDepth 100000 in
theorem lifted (os : Os) (started : os.Started) (H : Type) (enc : TypeId × Value → H) :
    ReturnsInHanded {} Try.checked os 3 .any (Rows.fnShatteredSpec.pre6 enc Try.prog Try.f3 Rows.fnShatteredRow.domain false) (Rows.fnShatteredSpec.post enc Try.prog Try.f3 false true false false) := by
  refine returnsInHanded_of_change (C := Try.checked) own started (by kernel_rfl) Try.func3
    (ChangeSpec.witness6 (enc := enc) (C := Try.checked) false ⟨#[], #[.slice none 0 0], []⟩ 8 (by kernel_rfl) (by kernel_rfl) (by kernel_rfl) (by kernel_rfl)) ?_
  intro W base args ds gs before hval0 hW hcnd _
  have hval : ∀ (j : Nat) t v, Try.f3.params[j]? = some t → args[j]? = some v → Value.okWide Try.prog W .any base t v := hval0
  have hW' := hW
  obtain ⟨p, q, hA0, hV, rfl, hfz, hnd⟩ := hW
  have hA : DataW.TrodAll enc Try.prog W 0 (fun _ => true) true Try.f3.params.toList args.toList ds p := hA0
  rw [Try.params3] at hA hval
  obtain ⟨v0, vs0, d0, ds0, p0, q0, hargs, rfl, rfl, h0, r0⟩ := trodAll_cons hA
  obtain ⟨rfl, rfl, rfl⟩ := trodAll_nil r0
  obtain rfl : args = #[v0] := by cases args; simp_all
  obtain ⟨rfl, rfl⟩ := trodVars_none hV
  have k0 := h0
  have lt0 : ∀ x ∈ p0, x.block < W.heap.size := by obtain ⟨m, hm⟩ := k0; exact DataW.trod_lt m _ _ _ hm
  obtain ⟨x0, e0, w0⟩ := openBytes (hval 0 22 v0 rfl rfl) h0
  subst e0
  clear hA0 hval0
  refine (walk W x0 w0).mono fun e W' ⟨he, bel⟩ => ?_
  subst he
  exact ⟨_, rfl, _, _, _, [], _, [], hW', trodAll_mk1 (shut_bool Try.underlying4 _), (trodAll_cons_mk (Below.trod laidOut (by kernel_rfl) (of_decide_eq_true (by kernel_rfl)) k0 bel lt0) trodAll_mk0), rfl, bel.frame _, fun h => by cases h⟩

theorem over : Rows.fnShatteredRow.holds Try.pinned (OpenSpec.ofChange Rows.fnShatteredSpec) :=
  OpenClaim.holds_of_wide 3 Try.f3 rfl rfl rfl rfl rfl rfl rfl ⟨rfl, rfl, rfl, rfl, rfl⟩ rfl rfl rfl rfl rfl (by kernel_rfl) Try.func3 (by kernel_rfl)
    (of_decide_eq_true (by kernel_rfl)) (by unfold Func.isWrapper; first | (rw [if_pos (by decide +kernel)]; kernel_rfl) | (rw [if_neg (by decide +kernel)]; exact ⟨rfl, rfl⟩))
    (fun os started H enc _ => lifted os started H enc)

/-- The given statement. -/
theorem proved : Rows.FnShatteredSaid := over
end Go.Proofs.Ytaoejdbkbnonpaa.fnShattered

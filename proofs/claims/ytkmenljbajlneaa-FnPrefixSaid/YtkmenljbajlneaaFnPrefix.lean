/- FnPrefix: the relation of beginnings is transitive, and events that are cut off are a beginning, for every code. No condition. -/
import Derived.Test.YtkmenljbajlneaaDrawP
import Derived.Test.YtkmenljbajlneaaMLaw
namespace Go.Proofs.Ytkmenljbajlneaa.fnPrefix
set_option linter.unusedSimpArgs false
set_option linter.unusedVariables false
open Go.ChangeShapes Go.WideShapes Go.ChangeAt Go.RowKit Go.BigFrame

/-- A number that the code gives. -/
theorem at0_any (a : Option Addr) (cap n : Nat) (i : Nat) (w : World) (h : Code w a n) (hn : n ≤ 1048576) (hi : i ≤ 100) : Calls Try.prog 58 #[.slice a n cap, .int .i64 i] w fun r w' => ∃ x : Nat, r = .returned (.int .i64 x) ∧ x ≤ 255 ∧ w = w' := by
  by_cases hl : i < n
  · obtain ⟨b, off, rfl, hb, y, hy0, hy1, cy⟩ := h i hl
    obtain ⟨y, rfl⟩ := Int.eq_ofNat_of_zero_le hy0
    go_enter Try.func58, Try.ntmps58
    go_wp2
    go_ret
    exact ⟨y, by first | rfl | exact ret_int (by omega), by omega, rfl⟩
  · have h0 : 0 ≤ ((i : Int) * 7 + n) % 256 := by omega
    have h1 : ((i : Int) * 7 + n) % 256 ≤ 255 := by omega
    go_enter Try.func58, Try.ntmps58
    go_wp2
    go_ret
    exact ⟨(((i : Int) * 7 + n) % 256).toNat, by first | rfl | exact ret_int (by omega), by omega, rfl⟩
set_option maxHeartbeats 4000000 in
theorem walk (w : World) (x : SlArg Int) (hx : x.ok 1 byCs ByOk w) :
    Calls Try.prog 13 #[.slice x.a x.xs.length x.cap] w fun r w' => r = .returned (.bool true) ∧ Below w.heap.size w w' := by
  have hcode := code_of hx
  obtain ⟨a, cap, bs⟩ := x
  obtain ⟨_, _, hle, hcap⟩ := hx
  simp only at hcode hle hcap ⊢
  by_cases hbig : (1048576 : Int) < (bs.length : Int)
  · go_enter Try.func13, Try.ntmps13
    go_wp2_with (first | (go_at_call 34; refine (big_any _ _ _ _).mono ?_; rintro r w1 ⟨rfl, rfl⟩))
    go_ret
    exact ⟨rfl, by ((repeat (first | (with_reducible exact Below.refl _ _) | (with_reducible assumption) | (with_reducible refine Below.alloc ?_ ?_ _) | (with_reducible refine Below.setCell ?_ ?_ _) | (with_reducible refine Below.drew ?_) | (with_reducible refine below_setRow ?_ ?_ _) | (refine Below.trans ?_ (Below.mono (by assumption) ?_)))); all_goals (first | omega | (simp; done) | (simp; omega)))⟩
  · go_enter Try.func13, Try.ntmps13
    go_wp2_with (first | (go_at_call 34; refine (big_any _ _ _ _).mono ?_; rintro r w1 ⟨rfl, rfl⟩))
    refine (drawPrefixOf_any a cap bs.length w hcode (by omega)).mono ?_
    rintro r w1 ⟨a1, cap1, xs, a2, cap2, ys, rfl, hxl, hxt, hyl, hyt, hxc, he1, he2, hb1⟩
    have hz1 := hb1.size
    have HE1 := Lib.hid he1; clear he1
    have HE2 := Lib.hid he2; clear he2
    have HC := Lib.hid (Code.keep hcode hb1)
    go_wp2_with fail
    refine (implPrefixOf_any a1 a2 cap1 cap2 _ _ xs ys _ HE1.out HE2.out rfl rfl (by omega) (by omega) (by omega) (by omega)).mono ?_
    rintro r w2 ⟨rfl, hb2⟩
    have hz2 := hb2.size
    have HF1 := Lib.hid (Sl.keep HE1.out hb2); clear HE1
    have HF2 := Lib.hid (Sl.keep HE2.out hb2); clear HE2
    have HC2 := Lib.hid (Code.keep (Code.keep hcode hb1) (hb2.mono (by omega))); clear HC
    obtain ⟨mx, hmx⟩ : ∃ mx, mx = merged xs := ⟨_, rfl⟩
    obtain ⟨my, hmy⟩ : ∃ my, my = merged ys := ⟨_, rfl⟩
    rw [← hmx, ← hmy]
    have HMX := Lib.hid hmx; clear hmx
    have HMY := Lib.hid hmy; clear hmy
    go_wp2_with fail
    refine (specPrefixOf_any a1 a2 cap1 cap2 _ _ xs ys _ HF1.out HF2.out rfl rfl (by omega) (by omega) (by omega) (by omega)).mono ?_
    rw [← HMX.out, ← HMY.out]
    rintro r w3 ⟨rfl, hb3⟩
    have hz3 := hb3.size
    have HE1 := Lib.hid (Sl.keep HF1.out hb3); clear HF1
    have HE2 := Lib.hid (Sl.keep HF2.out hb3); clear HF2
    have HC3 := Lib.hid (Code.keep HC2.out (hb3.mono (by omega))); clear HC2
    obtain ⟨ok, hok⟩ : ∃ ok, ok = preL mx my := ⟨_, rfl⟩
    rw [← hok]
    have HOK := Lib.hid hok; clear hok
    go_wp2_with fail
    refine (implPrefixOf_any a1 a1 cap1 cap1 _ _ xs xs _ HE1.out HE1.out rfl rfl (by omega) (by omega) (by omega) (by omega)).mono ?_
    rw [← HMX.out, preL_refl]
    rintro r w4 ⟨rfl, hb4⟩
    have hz4 := hb4.size
    have HF1 := Lib.hid (Sl.keep HE1.out hb4); clear HE1
    have HF2 := Lib.hid (Sl.keep HE2.out hb4); clear HE2
    have HC4 := Lib.hid (Code.keep HC3.out (hb4.mono (by omega))); clear HC3
    go_wp2_with fail
    refine (at0_any a cap _ 2 _ HC4.out (by omega) (by omega)).mono ?_
    rintro r w5 ⟨x, rfl, hx, rfl⟩
    have hk0 : 0 ≤ (x : Int) % ((xs.length : Int) + 1) := Int.emod_nonneg _ (by omega)
    have hk1 : (x : Int) % ((xs.length : Int) + 1) ≤ xs.length := by have := Int.emod_lt_of_pos (x : Int) (b := (xs.length : Int) + 1) (by omega); omega
    have hk2 : (1 : Int) ≤ (xs.length : Int) + 1 := by omega
    go_wp2_with fail
    obtain ⟨k, hk⟩ : ∃ k : Nat, k = x % (xs.length + 1) := ⟨_, rfl⟩
    have hkl : k ≤ xs.length := by rw [hk]; have := Nat.mod_lt x (y := xs.length + 1) (by omega); omega
    rw [show ((x : Int) % ((xs.length : Int) + 1)) = (k : Int) by rw [hk]; simp, ← hk]
    have hzl : (xs.take k).length = k := by rw [List.length_take, Nat.min_eq_left hkl]
    have hzt := textSum_take xs k
    obtain ⟨zs, hzs⟩ : ∃ zs, zs = xs.take k := ⟨_, rfl⟩
    have hp1 : preL (merged zs) mx = true := by rw [hzs, HMX.out]; exact preL_take xs k
    have hp2 : ok = true → preL (merged zs) my = true := fun h => preL_trans hp1 (by rw [← HOK.out]; exact h)
    have HZ4 : Evs w4 a1 zs := by rw [hzs]; exact Evs.take HF1.out k
    rw [← hzs] at hzl hzt
    clear hk hzs hk0 hk1 hk2
    refine (implPrefixOf_any a1 a1 cap1 cap1 _ _ zs xs _ HZ4 HF1.out hzl rfl (by omega) (by omega) (by omega) (by omega)).mono ?_
    rw [← HMX.out, hp1]
    rintro r w6 ⟨rfl, hb6⟩
    have hz6 := hb6.size
    have HZ6 := Lib.hid (Sl.keep HZ4 hb6); clear HZ4
    have HE2 := Lib.hid (Sl.keep HF2.out hb6); clear HF2
    cases ok
    · go_wp2
      go_ret
      exact ⟨rfl, by ((repeat (first | (with_reducible exact Below.refl _ _) | (with_reducible assumption) | (with_reducible refine Below.alloc ?_ ?_ _) | (with_reducible refine Below.setCell ?_ ?_ _) | (with_reducible refine Below.drew ?_) | (with_reducible refine below_setRow ?_ ?_ _) | (refine Below.trans ?_ (Below.mono (by assumption) ?_)))); all_goals (first | omega | (simp; done) | (simp; omega)))⟩
    · go_wp2_with fail
      refine (implPrefixOf_any a1 a2 cap1 cap2 _ _ zs ys _ HZ6.out HE2.out hzl rfl (by omega) (by omega) (by omega) (by omega)).mono ?_
      rw [← HMY.out, hp2 (by trivial)]
      rintro r w7 ⟨rfl, hb7⟩
      have hz7 := hb7.size
      go_wp2
      go_ret
      exact ⟨rfl, by ((repeat (first | (with_reducible exact Below.refl _ _) | (with_reducible assumption) | (with_reducible refine Below.alloc ?_ ?_ _) | (with_reducible refine Below.setCell ?_ ?_ _) | (with_reducible refine Below.drew ?_) | (with_reducible refine below_setRow ?_ ?_ _) | (refine Below.trans ?_ (Below.mono (by assumption) ?_)))); all_goals (first | omega | (simp; done) | (simp; omega)))⟩
set_option maxRecDepth 100000 in
theorem lifted (os : Os) (started : os.Started) (H : Type) (enc : TypeId × Value → H) :
    ReturnsInHanded {} Try.checked os 13 .any (Rows.fnPrefixSpec.pre6 enc Try.prog Try.f13 Rows.fnPrefixRow.domain false) (Rows.fnPrefixSpec.post enc Try.prog Try.f13 false true false false) := by
  refine returnsInHanded_of_change (C := Try.checked) own started (by kernel_rfl) Try.func13
    (ChangeSpec.witness6 (enc := enc) (C := Try.checked) false ⟨#[], #[.slice none 0 0], []⟩ 8 (by kernel_rfl) (by kernel_rfl) (by kernel_rfl) (by kernel_rfl)) ?_
  intro W base args ds gs before hval0 hW hcnd _
  have hval : ∀ (j : Nat) t v, Try.f13.params[j]? = some t → args[j]? = some v → Value.okWide Try.prog W .any base t v := hval0
  have hW' := hW
  obtain ⟨p, q, hA0, hV, rfl, hfz, hnd⟩ := hW
  have hA : DataW.TrodAll enc Try.prog W 0 (fun _ => true) true Try.f13.params.toList args.toList ds p := hA0
  rw [Try.params13] at hA hval
  obtain ⟨v0, vs0, d0, ds0, p0, q0, hargs, rfl, rfl, h0, r0⟩ := trodAll_cons hA
  obtain ⟨rfl, rfl, rfl⟩ := trodAll_nil r0
  obtain rfl : args = #[v0] := by cases args; simp_all
  obtain ⟨rfl, rfl⟩ := trodVars_none hV
  have k0 := h0
  have lt0 : ∀ x ∈ p0, x.block < W.heap.size := by obtain ⟨m, hm⟩ := k0; exact DataW.trod_lt m _ _ _ hm
  obtain ⟨x0, e0, w0⟩ := openBytes (hval 0 47 v0 rfl rfl) h0
  subst e0
  clear hA0 hval0
  refine (walk W x0 w0).mono fun e W' ⟨he, bel⟩ => ?_
  subst he
  exact ⟨_, rfl, _, _, _, [], _, [], hW', trodAll_mk1 (shut_bool Try.underlying4 _), (trodAll_cons_mk (Below.trod laidOut (by kernel_rfl) (of_decide_eq_true (by kernel_rfl)) k0 bel lt0) trodAll_mk0), rfl, bel.frame _, fun h => by cases h⟩

theorem over : Rows.fnPrefixRow.holds Try.pinned (OpenSpec.ofChange Rows.fnPrefixSpec) :=
  OpenClaim.holds_of_wide 13 Try.f13 rfl rfl rfl rfl rfl rfl rfl ⟨rfl, rfl, rfl, rfl, rfl⟩ rfl rfl rfl rfl rfl (by kernel_rfl) Try.func13 (by kernel_rfl)
    (of_decide_eq_true (by kernel_rfl)) (by unfold Func.isWrapper; first | (rw [if_pos (by decide +kernel)]; kernel_rfl) | (rw [if_neg (by decide +kernel)]; exact ⟨rfl, rfl⟩))
    (fun os started H enc _ => lifted os started H enc)

/-- The given statement. -/
theorem proved : Rows.FnPrefixSaid := over
end Go.Proofs.Ytkmenljbajlneaa.fnPrefix

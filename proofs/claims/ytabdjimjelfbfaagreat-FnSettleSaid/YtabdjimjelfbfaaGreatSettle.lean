/- FnSettle: settling twice is settling once, for every code. No condition. (Printed by wip/tools/lawdgen.py.) -/
import Derived.Test.YtabdjimjelfbfaaGreatSettle1
import Derived.Test.YtabdjimjelfbfaaGreatSettle2
import Derived.Test.YtabdjimjelfbfaaGreatSettle3
import Derived.Test.YtabdjimjelfbfaaGreatSettle4
import Derived.Test.YtabdjimjelfbfaaGreatSettle5
import Derived.Test.YtabdjimjelfbfaaGreatSettle6
import Derived.Test.YtabdjimjelfbfaaGreatSettle7
import Derived.Test.YtabdjimjelfbfaaGreatSettle8
import Derived.Test.YtabdjimjelfbfaaGreatSettle9
import Derived.Test.YtabdjimjelfbfaaGreatSettle10
import Derived.Test.YtabdjimjelfbfaaGreatSettle11
import Derived.Test.YtabdjimjelfbfaaGreatSettle12
import Derived.Test.YtabdjimjelfbfaaGreatSettle13
import Derived.Test.YtabdjimjelfbfaaGreatSettle14
import Derived.Test.YtabdjimjelfbfaaGreatSettle15
namespace Go.Proofs.YtabdjimjelfbfaaGreat.fnSettle
set_option linter.unusedSimpArgs false
set_option linter.unusedVariables false
open Go.ChangeShapes Go.WideShapes Go.ChangeAt Go.RowKit Go.BigFrame
theorem settleF_end : ∀ (f : Nat) (d : Dc) (ls : List Lvl), msr d ls < f → closeS (settleF f d ls).1 (settleF f d ls).2.1 = none
 | 0, _, _, h => by omega
 | f + 1, d, ls, h => by
  simp only [settleF]
  cases hc : closeS d ls with
  | none => exact hc
  | some x =>
   obtain ⟨d', ls', es⟩ := x
   have := closeS_msr hc
   exact settleF_end f d' ls' (by omega)
theorem settleO_twice {d e : Dc} {xs : List Shp} {ls ms : List Lvl} {es : List Ev} (h : settleO d xs ls = (e, ms, es)) : settleO e xs ms = (e, ms, []) := by
 by_cases hk : lvOk d xs ls = true
 ·have h1 : settle d ls = (e, ms, es) := by rw [← h]; unfold settleO; rw [if_pos hk]
  have h2 := settleF_end (msr d ls + 1) d ls (by omega)
  have h3 : settleF (msr d ls + 1) d ls = (e, ms, es) := h1
  rw [h3] at h2
  unfold settleO
  split
  ·exact settle_none h2
  ·rfl
 ·have h1 : (d, ls, []) = (e, ms, es) := by rw [← h]; unfold settleO; rw [if_neg hk]
  simp only [Prod.mk.injEq] at h1
  obtain ⟨rfl, rfl, _⟩ := h1
  unfold settleO; rw [if_neg hk]
theorem settleO_lens (d : Dc) (xs : List Shp) (ls : List Lvl) (h : ls.length ≤ 9) : (settleO d xs ls).2.1.length ≤ 9 ∧ (settleO d xs ls).2.2.length ≤ 20 := by
 unfold settleO; split
 ·have := settle_len d ls; omega
 ·simp; omega
set_option maxRecDepth 100000 in
set_option maxHeartbeats 8000000 in
theorem walk (w : World) (x : SlArg Int) (hx : x.ok 1 byCs ByOk w) :
  Calls Tryz.prog 5 #[.slice x.a x.xs.length x.cap] w fun r w' => r = .returned (.bool true) ∧ Below w.heap.size w w' := by
 have hcode := code_of hx
 obtain ⟨a, cap, bs⟩ := x
 obtain ⟨_, _, hle, hcap⟩ := hx
 simp only at hcode hle hcap ⊢
 by_cases hbig : (1048576 : Int) < (bs.length : Int)
 ·go_enter Tryz.func5, Tryz.ntmps5
  go_wp2_with (first | (go_at_call 8; refine (big_any _ _ _ _).mono ?_; rintro r w1 ⟨rfl, rfl⟩))
  go_ret
  exact ⟨rfl, by exact bl⟩
 ·go_enter Tryz.func5, Tryz.ntmps5
  go_wp2_with (first | (go_at_call 8; refine (big_any _ _ _ _).mono ?_; rintro r w1 ⟨rfl, rfl⟩))
  refine (drawSettle_any a cap bs.length w hcode (by omega)).mono ?_
  rintro r w1 ⟨d, xs, ls, ad, capd, sd, scapd, rfl, hs, hl, hnil, hg, h9, hb1⟩
  have hn7 := hg.n
  have hms := hg.sum
  clear hcode hg
  have hbw := hb1; clear hb1
  go_upto_region 4 with (first | ((with_reducible show wpList _ _ _ (⟨_, Op.store 40 _ _, _, _, _, _⟩ :: _) _ _); refine wsq w1.heap.size (Dc.cl d (.slice ad xs.length capd) (.slice sd ls.length scapd)).toArray (hset_new rfl) (one_Dec _ _ _ _ _ _ _) ?_))
  have hbn : Below w1.heap.size w1 ((w1.alloc (.cells dz0.toArray 40)).setRow w1.heap.size (Dc.cl d (.slice ad xs.length capd) (.slice sd ls.length scapd)).toArray) := by exact bl
  have hnew := Hd.new (w := w1) (d := d) (cap := capd) (scap := scapd) hs hl hnil
  obtain ⟨w2, hw_⟩ : ∃ q, ((w1.alloc (.cells dz0.toArray 40)).setRow w1.heap.size (Dc.cl d (.slice ad xs.length capd) (.slice sd ls.length scapd)).toArray) = q := ⟨_, rfl⟩
  rw [hw_] at hbn hnew ⊢
  clear hw_
  obtain ⟨BD, hB_⟩ : ∃ q, w1.heap.size = q := ⟨_, rfl⟩
  rw [hB_] at hnew
  try simp only [hB_]
  clear hB_
  have HD := Lib.hid hnew; clear hnew
  have hbw_ := hbw.trans (hbn.mono hbw.size); clear hbw hbn; have hbw := hbw_; clear hbw_
  try simp only [Act.put]
  clear hs hl hnil
  obtain ⟨⟨e, ms, es⟩, hO⟩ : ∃ q, settleO d xs ls = q := ⟨_, rfl⟩
  have hlens := settleO_lens d xs ls h9
  rw [hO] at hlens
  simp only at hlens
  have HTW := Lib.hid (settleO_twice hO)
  have HO := Lib.hid hO; clear hO
  have h0 := implSettle_any d ad capd xs sd scapd ls w2 HD.out.sh HD.out.lv (by omega) hms (by omega) HD.out.nil
  rw [HO.out] at h0
  have H0 := Lib.hid h0; clear h0
  go_wp2_with (first | ((with_reducible show wpList _ _ _ (⟨_, Op.load 40 _, _, _, _, _⟩ :: _) _ _); refine wlm BD (Dc.cl d (.slice ad xs.length capd) (.slice sd ls.length scapd)) (range_of_box (t := 40) HD.out.box) ?_))
  refine H0.out.mono ?_
  clear H0
  rintro r w3 ⟨a3, cap3, rs3, sa3, scap3, ea3, ecap3, rfl, hs_, hl_, he_, hb_⟩
  have HD_ := Lib.hid (HD.out.keep hb_); clear HD; have HD := HD_; clear HD_
  have hbw_ := hbw.trans (hb_.mono hbw.size); clear hbw; have hbw := hbw_; clear hbw_
  have hnil3 := own_nilc2 hl_
  have HS3 := Lib.hid hs_.shsC; have HL3 := Lib.hid (lvls_of_own hl_ rfl); have HE3 := Lib.hid (evs_of_own he_ rfl); clear hs_ hl_ he_ hb_
  go_upto_region 5 with (first | ((with_reducible show wpList _ _ _ (⟨_, Op.store 40 _ _, _, _, _, _⟩ :: _) _ _); refine wsq w3.heap.size (Dc.cl e (.slice a3 xs.length cap3) (.slice sa3 ms.length scap3)).toArray (hset_new rfl) (one_Dec _ _ _ _ _ _ _) ?_))
  have hbn : Below w3.heap.size w3 ((w3.alloc (.cells dz0.toArray 40)).setRow w3.heap.size (Dc.cl e (.slice a3 xs.length cap3) (.slice sa3 ms.length scap3)).toArray) := by exact bl
  have hnew := Hd.new (w := w3) (d := e) (cap := cap3) (scap := scap3) HS3.out HL3.out (fun e => (hnil3 e).2)
  obtain ⟨w4, hw_⟩ : ∃ q, ((w3.alloc (.cells dz0.toArray 40)).setRow w3.heap.size (Dc.cl e (.slice a3 xs.length cap3) (.slice sa3 ms.length scap3)).toArray) = q := ⟨_, rfl⟩
  rw [hw_] at hbn hnew ⊢
  clear hw_
  obtain ⟨BX, hB_⟩ : ∃ q, w3.heap.size = q := ⟨_, rfl⟩
  rw [hB_] at hnew
  try simp only [hB_]
  clear hB_
  have HX := Lib.hid hnew; clear hnew
  have HD_ := Lib.hid (HD.out.keep hbn); clear HD; have HD := HD_; clear HD_
  have HE3_ := Lib.hid (Sl.keep HE3.out hbn); clear HE3; have HE3 := HE3_; clear HE3_
  have hbw_ := hbw.trans (hbn.mono hbw.size); clear hbw hbn; have hbw := hbw_; clear hbw_
  try simp only [Act.put]
  clear HS3 HL3 hnil3
  have h0 := specSettle_any d ad capd xs sd scapd ls w4 HD.out.sh HD.out.lv (by omega) hms (by omega) HD.out.nil
  rw [HO.out] at h0
  have H0 := Lib.hid h0; clear h0
  go_wp2_with (first | ((with_reducible show wpList _ _ _ (⟨_, Op.load 40 _, _, _, _, _⟩ :: _) _ _); refine wlm BD (Dc.cl d (.slice ad xs.length capd) (.slice sd ls.length scapd)) (range_of_box (t := 40) HD.out.box) ?_))
  refine H0.out.mono ?_
  clear H0 HO
  rintro r w5 ⟨a5, cap5, rs5, sa5, scap5, ea5, ecap5, rfl, hs_, hl_, he_, hb_⟩
  have HD_ := Lib.hid (HD.out.keep hb_); clear HD; have HD := HD_; clear HD_
  have HX_ := Lib.hid (HX.out.keep hb_); clear HX; have HX := HX_; clear HX_
  have HE3_ := Lib.hid (Sl.keep HE3.out hb_); clear HE3; have HE3 := HE3_; clear HE3_
  have hbw_ := hbw.trans (hb_.mono hbw.size); clear hbw; have hbw := hbw_; clear hbw_
  have hnil5 := own_nilc2 hl_
  have HS5 := Lib.hid hs_.shsC; have HL5 := Lib.hid (lvls_of_own hl_ rfl); have HE5 := Lib.hid (evs_of_own he_ rfl); clear hs_ hl_ he_ hb_
  go_upto_region 6 with (first | ((with_reducible show wpList _ _ _ (⟨_, Op.store 40 _ _, _, _, _, _⟩ :: _) _ _); refine wsq w5.heap.size (Dc.cl e (.slice a5 xs.length cap5) (.slice sa5 ms.length scap5)).toArray (hset_new rfl) (one_Dec _ _ _ _ _ _ _) ?_))
  have hbn : Below w5.heap.size w5 ((w5.alloc (.cells dz0.toArray 40)).setRow w5.heap.size (Dc.cl e (.slice a5 xs.length cap5) (.slice sa5 ms.length scap5)).toArray) := by exact bl
  have hnew := Hd.new (w := w5) (d := e) (cap := cap5) (scap := scap5) HS5.out HL5.out (fun e => (hnil5 e).2)
  obtain ⟨w6, hw_⟩ : ∃ q, ((w5.alloc (.cells dz0.toArray 40)).setRow w5.heap.size (Dc.cl e (.slice a5 xs.length cap5) (.slice sa5 ms.length scap5)).toArray) = q := ⟨_, rfl⟩
  rw [hw_] at hbn hnew ⊢
  clear hw_
  obtain ⟨BY, hB_⟩ : ∃ q, w5.heap.size = q := ⟨_, rfl⟩
  rw [hB_] at hnew
  try simp only [hB_]
  clear hB_
  have HY := Lib.hid hnew; clear hnew
  have HD_ := Lib.hid (HD.out.keep hbn); clear HD; have HD := HD_; clear HD_
  have HX_ := Lib.hid (HX.out.keep hbn); clear HX; have HX := HX_; clear HX_
  have HE3_ := Lib.hid (Sl.keep HE3.out hbn); clear HE3; have HE3 := HE3_; clear HE3_
  have HE5_ := Lib.hid (Sl.keep HE5.out hbn); clear HE5; have HE5 := HE5_; clear HE5_
  have hbw_ := hbw.trans (hbn.mono hbw.size); clear hbw hbn; have hbw := hbw_; clear hbw_
  try simp only [Act.put]
  clear HS5 HL5 hnil5
  go_wp2_with (first | ((with_reducible show wpList _ _ _ (⟨_, Op.load 40 _, _, _, _, _⟩ :: _) _ _); refine wlm BX (Dc.cl e (.slice a3 xs.length cap3) (.slice sa3 ms.length scap3)) (range_of_box (t := 40) HX.out.box) ?_) | ((with_reducible show wpList _ _ _ (⟨_, Op.load 40 _, _, _, _, _⟩ :: _) _ _); refine wlm BY (Dc.cl e (.slice a5 xs.length cap5) (.slice sa5 ms.length scap5)) (range_of_box (t := 40) HY.out.box) ?_))
  refine (specSameDec_any e a3 cap3 _ xs sa3 scap3 _ ms e a5 cap5 _ xs sa5 scap5 _ ms _ HX.out.sh.shs HX.out.lv rfl rfl (by omega) hms (by omega) HY.out.sh.shs HY.out.lv rfl rfl (by omega) hms (by omega)).mono ?_
  rintro r w7 ⟨rfl, hb_⟩
  rw [sameDec_self]
  have HX_ := Lib.hid (HX.out.keep hb_); clear HX; have HX := HX_; clear HX_
  have HY_ := Lib.hid (HY.out.keep hb_); clear HY; have HY := HY_; clear HY_
  have HE3_ := Lib.hid (Sl.keep HE3.out hb_); clear HE3; have HE3 := HE3_; clear HE3_
  have HE5_ := Lib.hid (Sl.keep HE5.out hb_); clear HE5; have HE5 := HE5_; clear HE5_
  have hbw_ := hbw.trans (hb_.mono hbw.size); clear hbw; have hbw := hbw_; clear hbw_
  clear hb_
  go_wp2_with fail
  refine (specSameEvents_any ea3 ea5 ecap3 ecap5 _ _ es es _ HE3.out HE5.out rfl rfl (by omega) (by omega)).mono ?_
  rintro r w8 ⟨rfl, hb_⟩
  rw [show decide (es = es) = true by simp]
  have HX_ := Lib.hid (HX.out.keep hb_); clear HX; have HX := HX_; clear HX_
  have HE3_ := Lib.hid (Sl.keep HE3.out hb_); clear HE3; have HE3 := HE3_; clear HE3_
  have hbw_ := hbw.trans (hb_.mono hbw.size); clear hbw; have hbw := hbw_; clear hbw_
  clear hb_
  clear HE5 HY HD HE3
  have h0 := implSettle_any e a3 cap3 xs sa3 scap3 ms w8 HX.out.sh HX.out.lv (by omega) hms (by omega) HX.out.nil
  rw [HTW.out] at h0
  have H0 := Lib.hid h0; clear h0
  go_wp2_with (first | ((with_reducible show wpList _ _ _ (⟨_, Op.load 40 _, _, _, _, _⟩ :: _) _ _); refine wlm BX (Dc.cl e (.slice a3 xs.length cap3) (.slice sa3 ms.length scap3)) (range_of_box (t := 40) HX.out.box) ?_))
  refine H0.out.mono ?_
  clear H0 HTW
  rintro r w9 ⟨a9, cap9, rs9, sa9, scap9, ea9, ecap9, rfl, hs_, hl_, he_, hb_⟩
  have HX_ := Lib.hid (HX.out.keep hb_); clear HX; have HX := HX_; clear HX_
  have hbw_ := hbw.trans (hb_.mono hbw.size); clear hbw; have hbw := hbw_; clear hbw_
  have hnil9 := own_nilc2 hl_
  have HS9 := Lib.hid hs_.shsC; have HL9 := Lib.hid (lvls_of_own hl_ rfl); have HE9 := Lib.hid (evs_of_own he_ rfl); clear hs_ hl_ he_ hb_
  go_upto_region 9 with (first | ((with_reducible show wpList _ _ _ (⟨_, Op.store 40 _ _, _, _, _, _⟩ :: _) _ _); refine wsq w9.heap.size (Dc.cl e (.slice a9 xs.length cap9) (.slice sa9 ms.length scap9)).toArray (hset_new rfl) (one_Dec _ _ _ _ _ _ _) ?_))
  have hbn : Below w9.heap.size w9 ((w9.alloc (.cells dz0.toArray 40)).setRow w9.heap.size (Dc.cl e (.slice a9 xs.length cap9) (.slice sa9 ms.length scap9)).toArray) := by exact bl
  have hnew := Hd.new (w := w9) (d := e) (cap := cap9) (scap := scap9) HS9.out HL9.out (fun e => (hnil9 e).2)
  obtain ⟨w10, hw_⟩ : ∃ q, ((w9.alloc (.cells dz0.toArray 40)).setRow w9.heap.size (Dc.cl e (.slice a9 xs.length cap9) (.slice sa9 ms.length scap9)).toArray) = q := ⟨_, rfl⟩
  rw [hw_] at hbn hnew ⊢
  clear hw_
  obtain ⟨BZ, hB_⟩ : ∃ q, w9.heap.size = q := ⟨_, rfl⟩
  rw [hB_] at hnew
  try simp only [hB_]
  clear hB_
  have HZ := Lib.hid hnew; clear hnew
  have HX_ := Lib.hid (HX.out.keep hbn); clear HX; have HX := HX_; clear HX_
  have hbw_ := hbw.trans (hbn.mono hbw.size); clear hbw hbn; have hbw := hbw_; clear hbw_
  try simp only [Act.put]
  clear HS9 HL9 hnil9 HE9
  go_wp2_with (first | ((with_reducible show wpList _ _ _ (⟨_, Op.load 40 _, _, _, _, _⟩ :: _) _ _); refine wlw BZ (Dc.cl e (.slice a9 xs.length cap9) (.slice sa9 ms.length scap9)) (range_of_box (t := 40) HZ.out.box) ?_) | ((with_reducible show wpList _ _ _ (⟨_, Op.load 40 _, _, _, _, _⟩ :: _) _ _); refine wlw BX (Dc.cl e (.slice a3 xs.length cap3) (.slice sa3 ms.length scap3)) (range_of_box (t := 40) HX.out.box) ?_))
  refine (specSameDec_any e a9 cap9 _ xs sa9 scap9 _ ms e a3 cap3 _ xs sa3 scap3 _ ms _ HZ.out.sh.shs HZ.out.lv rfl rfl (by omega) hms (by omega) HX.out.sh.shs HX.out.lv rfl rfl (by omega) hms (by omega)).mono ?_
  rintro r w11 ⟨rfl, hb_⟩
  rw [sameDec_self]
  have HX_ := Lib.hid (HX.out.keep hb_); clear HX; have HX := HX_; clear HX_
  have HZ_ := Lib.hid (HZ.out.keep hb_); clear HZ; have HZ := HZ_; clear HZ_
  have hbw_ := hbw.trans (hb_.mono hbw.size); clear hbw; have hbw := hbw_; clear hbw_
  clear hb_
  go_wp2_with (first | ((with_reducible show wpList _ _ _ (⟨_, Op.load 40 _, _, _, _, _⟩ :: _) _ _); refine wlw BZ (Dc.cl e (.slice a9 xs.length cap9) (.slice sa9 ms.length scap9)) (range_of_box (t := 40) HZ.out.box) ?_) | ((with_reducible show wpList _ _ _ (⟨_, Op.load 40 _, _, _, _, _⟩ :: _) _ _); refine wlw BX (Dc.cl e (.slice a3 xs.length cap3) (.slice sa3 ms.length scap3)) (range_of_box (t := 40) HX.out.box) ?_))
  refine (implSameDec_any e a9 cap9 _ xs sa9 scap9 _ ms e a3 cap3 _ xs sa3 scap3 _ ms _ HZ.out.sh.shs HZ.out.lv rfl rfl (by omega) hms (by omega) HX.out.sh.shs HX.out.lv rfl rfl (by omega) hms (by omega)).mono ?_
  rintro r w12 ⟨rfl, hb_⟩
  rw [sameDec_self]
  have HX_ := Lib.hid (HX.out.keep hb_); clear HX; have HX := HX_; clear HX_
  have HZ_ := Lib.hid (HZ.out.keep hb_); clear HZ; have HZ := HZ_; clear HZ_
  have hbw_ := hbw.trans (hb_.mono hbw.size); clear hbw; have hbw := hbw_; clear hbw_
  clear hb_
  go_wp2
  go_ret
  exact ⟨rfl, hbw⟩
set_option maxRecDepth 100000 in
theorem lifted (os : Os) (started : os.Started) (H : Type) (enc : TypeId × Value → H) :
  ReturnsInHanded {} Tryz.checked os 5 .any (Rows.fnSettleSpec.pre6 enc Tryz.prog Tryz.f5 Rows.fnSettleRow.domain false) (Rows.fnSettleSpec.post enc Tryz.prog Tryz.f5 false true false false) := by
 refine returnsInHanded_of_change (C := Tryz.checked) own started (by kernel_rfl) Tryz.func5
  (ChangeSpec.witness6 (enc := enc) (C := Tryz.checked) false ⟨#[], #[.slice none 0 0], []⟩ 8 (by kernel_rfl) (by kernel_rfl) (by kernel_rfl) (by kernel_rfl)) ?_
 intro W base args ds gs before hval0 hW hcnd _
 have hval : ∀ (j : Nat) t v, Tryz.f5.params[j]? = some t → args[j]? = some v → Value.okWide Tryz.prog W .any base t v := hval0
 have hW' := hW
 obtain ⟨p, q, hA0, hV, rfl, hfz, hnd⟩ := hW
 have hA : DataW.TrodAll enc Tryz.prog W 0 (fun _ => true) true Tryz.f5.params.toList args.toList ds p := hA0
 rw [Tryz.params5] at hA hval
 obtain ⟨v0, vs0, d0, ds0, p0, q0, hargs, rfl, rfl, h0, r0⟩ := trodAll_cons hA
 obtain ⟨rfl, rfl, rfl⟩ := trodAll_nil r0
 obtain rfl : args = #[v0] := by cases args; simp_all
 obtain ⟨rfl, rfl⟩ := trodVars_none hV
 have k0 := h0
 have lt0 : ∀ x ∈ p0, x.block < W.heap.size := by obtain ⟨m, hm⟩ := k0; exact DataW.trod_lt m _ _ _ hm
 obtain ⟨x0, e0, w0⟩ := openBytes (hval 0 22 v0 rfl rfl) h0
 subst e0
 clear hA0 hval0
 refine (walk W x0 w0).mono fun e W' ⟨he, bel⟩ => ?_
 subst he
 exact ⟨_, rfl, _, _, _, [], _, [], hW', trodAll_mk1 (shut_bool Tryz.underlying4 _), (trodAll_cons_mk (Below.trod laidOut (by kernel_rfl) (of_decide_eq_true (by kernel_rfl)) k0 bel lt0) trodAll_mk0), rfl, bel.frame _, fun h => by cases h⟩
theorem over : Rows.fnSettleRow.holds Tryz.pinned (OpenSpec.ofChange Rows.fnSettleSpec) :=
 OpenClaim.holds_of_wide 5 Tryz.f5 rfl rfl rfl rfl rfl rfl rfl ⟨rfl, rfl, rfl, rfl, rfl⟩ rfl rfl rfl rfl rfl (by kernel_rfl) Tryz.func5 (by kernel_rfl)
  (of_decide_eq_true (by kernel_rfl)) (by unfold Func.isWrapper; first | (rw [if_pos (by decide +kernel)]; kernel_rfl) | (rw [if_neg (by decide +kernel)]; exact ⟨rfl, rfl⟩))
  (fun os started H enc _ => lifted os started H enc)
theorem proved : Rows.FnSettleSaid := over
end Go.Proofs.YtabdjimjelfbfaaGreat.fnSettle

/- FnFrameStep: a frame's length starts a frame or is too large, for every code. No condition. (Printed by wip/tools/lawdgen.py.) -/
import Derived.Test.YtabdjimjelfbfaaGreatFrame1
import Derived.Test.YtabdjimjelfbfaaGreatFrame2
import Derived.Test.YtabdjimjelfbfaaGreatFrame3
import Derived.Test.YtabdjimjelfbfaaGreatFrame4
import Derived.Test.YtabdjimjelfbfaaGreatFrame5
import Derived.Test.YtabdjimjelfbfaaGreatFrame6
import Derived.Test.YtabdjimjelfbfaaGreatFrame7
import Derived.Test.YtabdjimjelfbfaaGreatFrame8
import Derived.Test.YtabdjimjelfbfaaGreatFrame9
import Derived.Test.YtabdjimjelfbfaaGreatFrame10
import Derived.Test.YtabdjimjelfbfaaGreatFrame11
import Derived.Test.YtabdjimjelfbfaaGreatFrame12
import Derived.Test.YtabdjimjelfbfaaGreatFrame13
import Derived.Test.YtabdjimjelfbfaaGreatFrame14
import Derived.Test.YtabdjimjelfbfaaGreatFrame15
import Derived.Test.YtabdjimjelfbfaaGreatFrame16
namespace Go.Proofs.YtabdjimjelfbfaaGreat.fnFrameStep
set_option linter.unusedSimpArgs false
set_option linter.unusedVariables false
open Go.ChangeShapes Go.WideShapes Go.ChangeAt Go.RowKit Go.BigFrame
theorem settle_frame (d : Dc) (u : Int) : (settle (modeD (scan0 d) 2) [⟨d.p.root, u⟩]).2.2 = if u = 0 then [evK 8] else [] := by
 by_cases h : u = 0
 ·subst h
  have h1 : closeS (modeD (scan0 d) 2) [⟨d.p.root, 0⟩] = some (modeD (modeD (scan0 d) 2) 1, [], [evK 8]) := by simp [closeS, modeD, scan0, topL]
  have h2 : closeS (modeD (modeD (scan0 d) 2) 1) [] = none := by simp [closeS, modeD]
  rw [settle_some h1, settle_none h2]; rfl
 ·have h1 : closeS (modeD (scan0 d) 2) [⟨d.p.root, u⟩] = none := by simp [closeS, modeD, scan0, topL, h]
  rw [settle_none h1, if_neg h]
theorem frameO_case (d : Dc) (xs : List Shp) (ls : List Lvl) (u : Int) : frameO d xs ls u = (d, ls, []) ∨ ((0 ≤ d.p.most ∧ d.p.most ≤ 2000) ∧ (d.p.most < u ∧ (frameO d xs ls u).2.2 = [failE 7 d.start] ∨ ¬ d.p.most < u ∧ (frameO d xs ls u).2.2 = frameE u :: if u = 0 then [evK 8] else [])) := by
 by_cases hk : lvOk d xs ls = true
 ·right
  refine ⟨lvOk_most hk, ?_⟩
  by_cases hm : d.p.most < u
  ·exact .inl ⟨hm, by unfold frameO; rw [if_pos hk, if_pos hm]; rfl⟩
  ·refine .inr ⟨hm, ?_⟩
   unfold frameO; rw [if_pos hk, if_neg hm, ← settle_frame d u]; rfl
 ·left; unfold frameO; rw [if_neg hk]
theorem frameO_lens (d : Dc) (xs : List Shp) (ls : List Lvl) (u : Int) (h : ls.length ≤ 9) : (frameO d xs ls u).2.1.length ≤ 9 ∧ (frameO d xs ls u).2.2.length ≤ 2 := by
 constructor
 ·unfold frameO; split
  ·split
   ·simpa [failO] using h
   ·have := (settle_len (modeD (scan0 d) 2) [⟨d.p.root, u⟩]).1
    simp only [behind]; simp only [List.length_singleton] at this; omega
  ·simpa using h
 ·rcases frameO_case d xs ls u with h1 | ⟨_, ⟨_, h1⟩ | ⟨_, h1⟩⟩
  ·rw [h1]; simp
  ·rw [h1]; simp
  ·rw [h1]; split <;> simp
set_option maxRecDepth 100000 in
set_option maxHeartbeats 8000000 in
theorem walk (w : World) (x : SlArg Int) (hx : x.ok 1 byCs ByOk w) :
  Calls Tryz.prog 4 #[.slice x.a x.xs.length x.cap] w fun r w' => r = .returned (.bool true) ∧ Below w.heap.size w w' := by
 have hcode := code_of hx
 obtain ⟨a, cap, bs⟩ := x
 obtain ⟨_, _, hle, hcap⟩ := hx
 simp only at hcode hle hcap ⊢
 by_cases hbig : (1048576 : Int) < (bs.length : Int)
 ·go_enter Tryz.func4, Tryz.ntmps4
  go_wp2_with (first | (go_at_call 8; refine (big_any _ _ _ _).mono ?_; rintro r w1 ⟨rfl, rfl⟩))
  go_ret
  exact ⟨rfl, by exact bl⟩
 ·go_enter Tryz.func4, Tryz.ntmps4
  go_wp2_with (first | (go_at_call 8; refine (big_any _ _ _ _).mono ?_; rintro r w1 ⟨rfl, rfl⟩))
  refine (drawFrame_any a cap bs.length w hcode (by omega)).mono ?_
  rintro r w1 ⟨d, xs, ls, ad, capd, sd, scapd, u, rfl, hs, hl, hnil, hg, h9, hu, hb1⟩
  have hn7 := hg.n
  have hms := hg.sum
  clear hcode hg
  have hbw := hb1; clear hb1
  go_upto_region 4 with (first | ((with_reducible show wpList _ _ _ (⟨_, Op.store 40 _ _, _, _, _, _⟩ :: _) _ _); refine wsq w1.heap.size (Dc.cl d (.slice ad xs.length capd) (.slice sd ls.length scapd)).toArray (hset_new rfl) (one_Dec _ _ _ _ _ _ _) ?_))
  have hbn : Below w1.heap.size w1 ((w1.alloc (.cells dz0.toArray 40)).setRow w1.heap.size (Dc.cl d (.slice ad xs.length capd) (.slice sd ls.length scapd)).toArray) := by exact bl
  have hnew := Hd.new (w := w1) (d := d) (cap := capd) (scap := scapd) hs hl hnil
  obtain ⟨w2, hw_⟩ : ∃ q, ((w1.alloc (.cells dz0.toArray 40)).setRow w1.heap.size (Dc.cl d (.slice ad xs.length capd) (.slice sd ls.length scapd)).toArray) = q := ⟨_, rfl⟩
  rw [hw_] at hbn hnew ⊢
  clear hw_
  obtain ⟨BD, hB_⟩ : ∃ q, w1.heap.size = q := ⟨_, rfl⟩
  rw [hB_] at hnew
  try simp only [hB_]
  clear hB_
  have HD := Lib.hid hnew; clear hnew
  have hbw_ := hbw.trans (hbn.mono hbw.size); clear hbw hbn; have hbw := hbw_; clear hbw_
  try simp only [Act.put]
  clear hs hl hnil
  obtain ⟨⟨e, ms, es⟩, hO⟩ : ∃ q, frameO d xs ls u = q := ⟨_, rfl⟩
  have hlens := frameO_lens d xs ls u h9
  have hcase := frameO_case d xs ls u
  rw [hO] at hlens hcase
  simp only at hlens hcase
  have HC := Lib.hid hcase; clear hcase
  have HO := Lib.hid hO; clear hO
  have h0 := implFrame_any d ad capd xs sd scapd ls u w2 HD.out.sh HD.out.lv (by omega) hms (by omega) HD.out.nil hu
  rw [HO.out] at h0
  have H0 := Lib.hid h0; clear h0
  go_wp2_with (first | ((with_reducible show wpList _ _ _ (⟨_, Op.load 40 _, _, _, _, _⟩ :: _) _ _); refine wlm BD (Dc.cl d (.slice ad xs.length capd) (.slice sd ls.length scapd)) (range_of_box (t := 40) HD.out.box) ?_))
  refine H0.out.mono ?_
  clear H0
  rintro r w3 ⟨a3, cap3, rs3, sa3, scap3, ea3, ecap3, rfl, hs_, hl_, he_, hb_⟩
  have HD_ := Lib.hid (HD.out.keep hb_); clear HD; have HD := HD_; clear HD_
  have hbw_ := hbw.trans (hb_.mono hbw.size); clear hbw; have hbw := hbw_; clear hbw_
  have hnil3 := own_nilc2 hl_
  have HS3 := Lib.hid hs_.shsC; have HL3 := Lib.hid (lvls_of_own hl_ rfl); have HE3 := Lib.hid (evs_of_own he_ rfl); clear hs_ hl_ he_ hb_
  go_upto_region 5 with (first | ((with_reducible show wpList _ _ _ (⟨_, Op.store 40 _ _, _, _, _, _⟩ :: _) _ _); refine wsq w3.heap.size (Dc.cl e (.slice a3 xs.length cap3) (.slice sa3 ms.length scap3)).toArray (hset_new rfl) (one_Dec _ _ _ _ _ _ _) ?_))
  have hbn : Below w3.heap.size w3 ((w3.alloc (.cells dz0.toArray 40)).setRow w3.heap.size (Dc.cl e (.slice a3 xs.length cap3) (.slice sa3 ms.length scap3)).toArray) := by exact bl
  have hnew := Hd.new (w := w3) (d := e) (cap := cap3) (scap := scap3) HS3.out HL3.out (fun e => (hnil3 e).2)
  obtain ⟨w4, hw_⟩ : ∃ q, ((w3.alloc (.cells dz0.toArray 40)).setRow w3.heap.size (Dc.cl e (.slice a3 xs.length cap3) (.slice sa3 ms.length scap3)).toArray) = q := ⟨_, rfl⟩
  rw [hw_] at hbn hnew ⊢
  clear hw_
  obtain ⟨BX, hB_⟩ : ∃ q, w3.heap.size = q := ⟨_, rfl⟩
  rw [hB_] at hnew
  try simp only [hB_]
  clear hB_
  have HX := Lib.hid hnew; clear hnew
  have HD_ := Lib.hid (HD.out.keep hbn); clear HD; have HD := HD_; clear HD_
  have HE3_ := Lib.hid (Sl.keep HE3.out hbn); clear HE3; have HE3 := HE3_; clear HE3_
  have hbw_ := hbw.trans (hbn.mono hbw.size); clear hbw hbn; have hbw := hbw_; clear hbw_
  try simp only [Act.put]
  clear HS3 HL3 hnil3
  have h0 := specFrame_any d ad capd xs sd scapd ls u w4 HD.out.sh HD.out.lv (by omega) hms (by omega) HD.out.nil hu
  rw [HO.out] at h0
  have H0 := Lib.hid h0; clear h0
  go_wp2_with (first | ((with_reducible show wpList _ _ _ (⟨_, Op.load 40 _, _, _, _, _⟩ :: _) _ _); refine wlm BD (Dc.cl d (.slice ad xs.length capd) (.slice sd ls.length scapd)) (range_of_box (t := 40) HD.out.box) ?_))
  refine H0.out.mono ?_
  clear H0 HO
  rintro r w5 ⟨a5, cap5, rs5, sa5, scap5, ea5, ecap5, rfl, hs_, hl_, he_, hb_⟩
  have HD_ := Lib.hid (HD.out.keep hb_); clear HD; have HD := HD_; clear HD_
  have HX_ := Lib.hid (HX.out.keep hb_); clear HX; have HX := HX_; clear HX_
  have HE3_ := Lib.hid (Sl.keep HE3.out hb_); clear HE3; have HE3 := HE3_; clear HE3_
  have hbw_ := hbw.trans (hb_.mono hbw.size); clear hbw; have hbw := hbw_; clear hbw_
  have hnil5 := own_nilc2 hl_
  have HS5 := Lib.hid hs_.shsC; have HL5 := Lib.hid (lvls_of_own hl_ rfl); have HE5 := Lib.hid (evs_of_own he_ rfl); clear hs_ hl_ he_ hb_
  go_upto_region 6 with (first | ((with_reducible show wpList _ _ _ (⟨_, Op.store 40 _ _, _, _, _, _⟩ :: _) _ _); refine wsq w5.heap.size (Dc.cl e (.slice a5 xs.length cap5) (.slice sa5 ms.length scap5)).toArray (hset_new rfl) (one_Dec _ _ _ _ _ _ _) ?_))
  have hbn : Below w5.heap.size w5 ((w5.alloc (.cells dz0.toArray 40)).setRow w5.heap.size (Dc.cl e (.slice a5 xs.length cap5) (.slice sa5 ms.length scap5)).toArray) := by exact bl
  have hnew := Hd.new (w := w5) (d := e) (cap := cap5) (scap := scap5) HS5.out HL5.out (fun e => (hnil5 e).2)
  obtain ⟨w6, hw_⟩ : ∃ q, ((w5.alloc (.cells dz0.toArray 40)).setRow w5.heap.size (Dc.cl e (.slice a5 xs.length cap5) (.slice sa5 ms.length scap5)).toArray) = q := ⟨_, rfl⟩
  rw [hw_] at hbn hnew ⊢
  clear hw_
  obtain ⟨BY, hB_⟩ : ∃ q, w5.heap.size = q := ⟨_, rfl⟩
  rw [hB_] at hnew
  try simp only [hB_]
  clear hB_
  have HY := Lib.hid hnew; clear hnew
  have HD_ := Lib.hid (HD.out.keep hbn); clear HD; have HD := HD_; clear HD_
  have HX_ := Lib.hid (HX.out.keep hbn); clear HX; have HX := HX_; clear HX_
  have HE3_ := Lib.hid (Sl.keep HE3.out hbn); clear HE3; have HE3 := HE3_; clear HE3_
  have HE5_ := Lib.hid (Sl.keep HE5.out hbn); clear HE5; have HE5 := HE5_; clear HE5_
  have hbw_ := hbw.trans (hbn.mono hbw.size); clear hbw hbn; have hbw := hbw_; clear hbw_
  try simp only [Act.put]
  clear HS5 HL5 hnil5
  go_wp2_with (first | ((with_reducible show wpList _ _ _ (⟨_, Op.load 40 _, _, _, _, _⟩ :: _) _ _); refine wlm BX (Dc.cl e (.slice a3 xs.length cap3) (.slice sa3 ms.length scap3)) (range_of_box (t := 40) HX.out.box) ?_) | ((with_reducible show wpList _ _ _ (⟨_, Op.load 40 _, _, _, _, _⟩ :: _) _ _); refine wlm BY (Dc.cl e (.slice a5 xs.length cap5) (.slice sa5 ms.length scap5)) (range_of_box (t := 40) HY.out.box) ?_))
  refine (specSameDec_any e a3 cap3 _ xs sa3 scap3 _ ms e a5 cap5 _ xs sa5 scap5 _ ms _ HX.out.sh.shs HX.out.lv rfl rfl (by omega) hms (by omega) HY.out.sh.shs HY.out.lv rfl rfl (by omega) hms (by omega)).mono ?_
  rintro r w7 ⟨rfl, hb_⟩
  rw [sameDec_self]
  have HX_ := Lib.hid (HX.out.keep hb_); clear HX; have HX := HX_; clear HX_
  have HY_ := Lib.hid (HY.out.keep hb_); clear HY; have HY := HY_; clear HY_
  have HD_ := Lib.hid (HD.out.keep hb_); clear HD; have HD := HD_; clear HD_
  have HE3_ := Lib.hid (Sl.keep HE3.out hb_); clear HE3; have HE3 := HE3_; clear HE3_
  have HE5_ := Lib.hid (Sl.keep HE5.out hb_); clear HE5; have HE5 := HE5_; clear HE5_
  have hbw_ := hbw.trans (hb_.mono hbw.size); clear hbw; have hbw := hbw_; clear hbw_
  clear hb_
  go_wp2_with fail
  refine (specSameEvents_any ea3 ea5 ecap3 ecap5 _ _ es es _ HE3.out HE5.out rfl rfl (by omega) (by omega)).mono ?_
  rintro r w8 ⟨rfl, hb_⟩
  rw [show decide (es = es) = true by simp]
  have HX_ := Lib.hid (HX.out.keep hb_); clear HX; have HX := HX_; clear HX_
  have HD_ := Lib.hid (HD.out.keep hb_); clear HD; have HD := HD_; clear HD_
  have HE3_ := Lib.hid (Sl.keep HE3.out hb_); clear HE3; have HE3 := HE3_; clear HE3_
  have hbw_ := hbw.trans (hb_.mono hbw.size); clear hbw; have hbw := hbw_; clear hbw_
  clear hb_
  clear HE5 HY
  have hu0 := WU64.lo hu
  rcases HC.out with he | ⟨⟨hm0, hm1⟩, ⟨hmu, rfl⟩ | ⟨hmu, hes⟩⟩
  ·clear HC
   simp only [Prod.mk.injEq] at he
   obtain ⟨rfl, rfl, rfl⟩ := he
   go_wp2_with (first | ((with_reducible show wpList _ _ _ (⟨_, Op.load 40 _, _, _, _, _⟩ :: _) _ _); refine wlm BX (Dc.cl e (.slice a3 xs.length cap3) (.slice sa3 ms.length scap3)) (range_of_box (t := 40) HX.out.box) ?_) | ((with_reducible show wpList _ _ _ (⟨_, Op.load 40 _, _, _, _, _⟩ :: _) _ _); refine wlm BD (Dc.cl e (.slice ad xs.length capd) (.slice sd ms.length scapd)) (range_of_box (t := 40) HD.out.box) ?_))
   refine (specSameDec_any e a3 cap3 _ xs sa3 scap3 _ ms e ad capd _ xs sd scapd _ ms _ HX.out.sh.shs HX.out.lv rfl rfl (by omega) hms (by omega) HD.out.sh.shs HD.out.lv rfl rfl (by omega) hms (by omega)).mono ?_
   rintro r w9 ⟨rfl, hb_⟩
   rw [sameDec_self]
   have hbw_ := hbw.trans (hb_.mono hbw.size); clear hbw; have hbw := hbw_; clear hbw_
   clear hb_
   go_wp2
   go_ret
   exact ⟨rfl, hbw⟩
  ·clear HC
   have hwm : IntKind.u64.wrap d.p.most = d.p.most := by rw [IntKind.wrap_u64]; omega
   have hlt : decide (d.p.most < u) = true := by simp; omega
   obtain ⟨b, off, rfl, hlb, c0, c1, c2, c3, c4, c5, c6⟩ := Evs.at (k := 0) HE3.out rfl
   simp only [Nat.zero_mul, Nat.add_zero] at c5 c6
   clear c0 c1 c2 c3 c4
   have kD := box_cells HD.out.box; have fD := box_frozen HD.out.box; have hBD := box_lt HD.out.box
   have cS := kD 8
   simp only [List.getElem?_toArray, List.getElem?_cons_zero, List.getElem?_cons_succ] at cS
   go_upto_region 11 with fail
   refine wp_region_till (Cells [(⟨b, off + 5, none⟩, .int .i64 7), (⟨b, off + 6, none⟩, .int .i64 d.start), (⟨BD, 8, none⟩, .int .i64 d.start)]) (fun _ => false) (by kernel_rfl) ?_
   have hS : Cells [(⟨b, off + 5, none⟩, .int .i64 7), (⟨b, off + 6, none⟩, .int .i64 d.start), (⟨BD, 8, none⟩, .int .i64 d.start)] w8.drew := cells_mk c5 (cells_mk c6 (cells_mk cS (cells_no _)))
   clear c5 c6 cS kD fD hBD
   refine tk (i := 0) hS ?_
   refine tk (i := 1) hS ?_
   refine tk (i := 2) hS ?_
   refine tk (i := 3) hS ?_
   refine tk (i := 4) hS ?_
   refine tk (i := 5) hS ?_
   refine tk (i := 6) hS ?_
   refine tk (i := 7) hS ?_
   refine tk (i := 8) hS ?_
   refine tk (i := 9) hS ?_
   refine tk (i := 10) hS ?_
   refine tk (i := 11) hS ?_
   refine tk (i := 12) hS ?_
   refine tk (i := 13) hS ?_
   refine tk (i := 14) hS ?_
   refine tk (i := 15) hS ?_
   refine tk (i := 16) hS ?_
   refine tk (i := 17) hS ?_
   refine tk (i := 18) hS ?_
   refine wpTill_op (i := 19) (by kernel_rfl) rfl (fun K hK => ?_)
   go_simp
   refine hK.out _ _ (fun _ => hS) ?_
   clear hK K
   refine wpTill_done (by kernel_rfl) ?_ _
   go_wp2
   go_ret
   exact ⟨rfl, hbw.trans ((Below.refl w8.heap.size w8).drew.mono hbw.size)⟩
  ·clear HC
   have hwm : IntKind.u64.wrap d.p.most = d.p.most := by rw [IntKind.wrap_u64]; omega
   have hwu : wrap64 u = u := by unfold wrap64; omega
   have hwu2 : IntKind.i64.wrap u = u := IntWalk.i64_in _ (by omega)
   have hlt : decide (d.p.most < u) = false := by simp; omega
   have hne := run_eql_ev
   have hse := sameEv_self ⟨1, 0, 0, u, ⟨#[]⟩, 0, 0⟩
   have kD := box_cells HD.out.box; have fD := box_frozen HD.out.box; have hBD := box_lt HD.out.box
   by_cases hz : u = 0
   ·have hz0 : (u == 0) = true := by simp; omega
    rw [if_pos hz] at hes
    subst hes
    clear hz hmu
    obtain ⟨b, off, rfl, hlb, c0, c1, c2, c3, c4, c5, c6⟩ := Evs.at (k := 0) HE3.out rfl
    simp only [Nat.zero_mul, Nat.add_zero, frameE] at c0 c1 c2 c3 c4 c5 c6
    go_wp2
    go_ret
    exact ⟨rfl, hbw⟩
   ·have hz0 : (u == 0) = false := by simp; omega
    rw [if_neg hz] at hes
    subst hes
    clear hz hmu
    obtain ⟨b, off, rfl, hlb, c0, c1, c2, c3, c4, c5, c6⟩ := Evs.at (k := 0) HE3.out rfl
    simp only [Nat.zero_mul, Nat.add_zero, frameE] at c0 c1 c2 c3 c4 c5 c6
    go_wp2
    go_ret
    exact ⟨rfl, hbw⟩
set_option maxRecDepth 100000 in
theorem lifted (os : Os) (started : os.Started) (H : Type) (enc : TypeId × Value → H) :
  ReturnsInHanded {} Tryz.checked os 4 .any (Rows.fnFrameStepSpec.pre6 enc Tryz.prog Tryz.f4 Rows.fnFrameStepRow.domain false) (Rows.fnFrameStepSpec.post enc Tryz.prog Tryz.f4 false true false false) := by
 refine returnsInHanded_of_change (C := Tryz.checked) own started (by kernel_rfl) Tryz.func4
  (ChangeSpec.witness6 (enc := enc) (C := Tryz.checked) false ⟨#[], #[.slice none 0 0], []⟩ 8 (by kernel_rfl) (by kernel_rfl) (by kernel_rfl) (by kernel_rfl)) ?_
 intro W base args ds gs before hval0 hW hcnd _
 have hval : ∀ (j : Nat) t v, Tryz.f4.params[j]? = some t → args[j]? = some v → Value.okWide Tryz.prog W .any base t v := hval0
 have hW' := hW
 obtain ⟨p, q, hA0, hV, rfl, hfz, hnd⟩ := hW
 have hA : DataW.TrodAll enc Tryz.prog W 0 (fun _ => true) true Tryz.f4.params.toList args.toList ds p := hA0
 rw [Tryz.params4] at hA hval
 obtain ⟨v0, vs0, d0, ds0, p0, q0, hargs, rfl, rfl, h0, r0⟩ := trodAll_cons hA
 obtain ⟨rfl, rfl, rfl⟩ := trodAll_nil r0
 obtain rfl : args = #[v0] := by cases args; simp_all
 obtain ⟨rfl, rfl⟩ := trodVars_none hV
 have k0 := h0
 have lt0 : ∀ x ∈ p0, x.block < W.heap.size := by obtain ⟨m, hm⟩ := k0; exact DataW.trod_lt m _ _ _ hm
 obtain ⟨x0, e0, w0⟩ := openBytes (hval 0 22 v0 rfl rfl) h0
 subst e0
 clear hA0 hval0
 refine (walk W x0 w0).mono fun e W' ⟨he, bel⟩ => ?_
 subst he
 exact ⟨_, rfl, _, _, _, [], _, [], hW', trodAll_mk1 (shut_bool Tryz.underlying4 _), (trodAll_cons_mk (Below.trod laidOut (by kernel_rfl) (of_decide_eq_true (by kernel_rfl)) k0 bel lt0) trodAll_mk0), rfl, bel.frame _, fun h => by cases h⟩
theorem over : Rows.fnFrameStepRow.holds Tryz.pinned (OpenSpec.ofChange Rows.fnFrameStepSpec) :=
 OpenClaim.holds_of_wide 4 Tryz.f4 rfl rfl rfl rfl rfl rfl rfl ⟨rfl, rfl, rfl, rfl, rfl⟩ rfl rfl rfl rfl rfl (by kernel_rfl) Tryz.func4 (by kernel_rfl)
  (of_decide_eq_true (by kernel_rfl)) (by unfold Func.isWrapper; first | (rw [if_pos (by decide +kernel)]; kernel_rfl) | (rw [if_neg (by decide +kernel)]; exact ⟨rfl, rfl⟩))
  (fun os started H enc _ => lifted os started H enc)
theorem proved : Rows.FnFrameStepSaid := over
end Go.Proofs.YtabdjimjelfbfaaGreat.fnFrameStep

/- FnTagStep: a tag tells nothing but a failure and leaves the levels as they are, for every code. No condition. (Printed by wip/tools/lawdgen.py.) -/
import Derived.Test.YtabdjimjelfbfaaGreatTag1
import Derived.Test.YtabdjimjelfbfaaGreatTag2
import Derived.Test.YtabdjimjelfbfaaGreatTag3
import Derived.Test.YtabdjimjelfbfaaGreatTag4
import Derived.Test.YtabdjimjelfbfaaGreatTag5
import Derived.Test.YtabdjimjelfbfaaGreatTag6
import Derived.Test.YtabdjimjelfbfaaGreatTag7
import Derived.Test.YtabdjimjelfbfaaGreatTag8
import Derived.Test.YtabdjimjelfbfaaGreatTag9
import Derived.Test.YtabdjimjelfbfaaGreatTag10
import Derived.Test.YtabdjimjelfbfaaGreatTag11
import Derived.Test.YtabdjimjelfbfaaGreatTag12
import Derived.Test.YtabdjimjelfbfaaGreatTag13
import Derived.Test.YtabdjimjelfbfaaGreatTag14
import Derived.Test.YtabdjimjelfbfaaGreatTag15
import Derived.Test.YtabdjimjelfbfaaGreatTag16
import Derived.Test.YtabdjimjelfbfaaGreatTag17
namespace Go.Proofs.YtabdjimjelfbfaaGreat.fnTagStep
set_option linter.unusedSimpArgs false
set_option linter.unusedVariables false
open Go.ChangeShapes Go.WideShapes Go.ChangeAt Go.RowKit Go.BigFrame
theorem tagO_ls (d : Dc) (xs : List Shp) (ls : List Lvl) (u : Int) : (tagO d xs ls u).2.1 = ls := by
 unfold tagO
 repeat (first | rfl | split)
theorem tagO_case (d : Dc) (xs : List Shp) (ls : List Lvl) (u : Int) : (tagO d xs ls u).2.2 = [] ∨ ∃ fe, (tagO d xs ls u).2.2 = [fe] ∧ fe.kind = 10 ∧ (tagO d xs ls u).1.mode = 9 := by
 unfold tagO
 repeat (first | exact .inl rfl | exact .inr ⟨_, rfl, rfl, rfl⟩ | split)
set_option maxRecDepth 100000 in
set_option maxHeartbeats 8000000 in
theorem walk (w : World) (x : SlArg Int) (hx : x.ok 1 byCs ByOk w) :
  Calls Tryz.prog 6 #[.slice x.a x.xs.length x.cap] w fun r w' => r = .returned (.bool true) ∧ Below w.heap.size w w' := by
 have hcode := code_of hx
 obtain ⟨a, cap, bs⟩ := x
 obtain ⟨_, _, hle, hcap⟩ := hx
 simp only at hcode hle hcap ⊢
 by_cases hbig : (1048576 : Int) < (bs.length : Int)
 ·go_enter Tryz.func6, Tryz.ntmps6
  go_wp2_with (first | (go_at_call 8; refine (big_any _ _ _ _).mono ?_; rintro r w1 ⟨rfl, rfl⟩))
  go_ret
  exact ⟨rfl, by exact bl⟩
 ·go_enter Tryz.func6, Tryz.ntmps6
  go_wp2_with (first | (go_at_call 8; refine (big_any _ _ _ _).mono ?_; rintro r w1 ⟨rfl, rfl⟩))
  refine (drawTag_any a cap bs.length w hcode (by omega)).mono ?_
  rintro r w1 ⟨d, xs, ls, ad, capd, sd, scapd, u, rfl, hs, hl, hnil, hg, h9, hu, hb1⟩
  have hn7 := hg.n
  have hms := hg.sum
  clear hcode hg
  have hbw := hb1; clear hb1
  go_upto_region 4 with (first | ((with_reducible show wpList _ _ _ (⟨_, Op.store 40 _ _, _, _, _, _⟩ :: _) _ _); refine wsq w1.heap.size (Dc.cl d (.slice ad xs.length capd) (.slice sd ls.length scapd)).toArray (hset_new rfl) (one_Dec _ _ _ _ _ _ _) ?_))
  have hbn : Below w1.heap.size w1 ((w1.alloc (.cells dz0.toArray 40)).setRow w1.heap.size (Dc.cl d (.slice ad xs.length capd) (.slice sd ls.length scapd)).toArray) := by exact bl
  have hnew := Hd.new (w := w1) (d := d) (cap := capd) (scap := scapd) hs hl hnil
  obtain ⟨w2, hw_⟩ : ∃ q, ((w1.alloc (.cells dz0.toArray 40)).setRow w1.heap.size (Dc.cl d (.slice ad xs.length capd) (.slice sd ls.length scapd)).toArray) = q := ⟨_, rfl⟩
  rw [hw_] at hbn hnew ⊢
  clear hw_
  obtain ⟨BD, hB_⟩ : ∃ q, w1.heap.size = q := ⟨_, rfl⟩
  rw [hB_] at hnew
  try simp only [hB_]
  clear hB_
  have HD := Lib.hid hnew; clear hnew
  have hbw_ := hbw.trans (hbn.mono hbw.size); clear hbw hbn; have hbw := hbw_; clear hbw_
  try simp only [Act.put]
  clear hs hl hnil
  obtain ⟨⟨e, ms, es⟩, hO⟩ : ∃ q, tagO d xs ls u = q := ⟨_, rfl⟩
  have hcase := tagO_case d xs ls u
  have hmsl := tagO_ls d xs ls u
  rw [hO] at hcase hmsl
  simp only at hcase hmsl
  have hmsl2 := hmsl.symm; clear hmsl; subst hmsl2
  have hes : es.length ≤ 1 := by rcases hcase with h | ⟨_, h, _⟩ <;> rw [h] <;> simp
  have HC := Lib.hid hcase; clear hcase
  have HO := Lib.hid hO; clear hO
  have h0 := implTag_any d ad capd xs sd scapd ls u w2 HD.out.sh HD.out.lv (by omega) hms (by omega) HD.out.nil hu
  rw [HO.out] at h0
  have H0 := Lib.hid h0; clear h0
  go_wp2_with (first | ((with_reducible show wpList _ _ _ (⟨_, Op.load 40 _, _, _, _, _⟩ :: _) _ _); refine wlm BD (Dc.cl d (.slice ad xs.length capd) (.slice sd ls.length scapd)) (range_of_box (t := 40) HD.out.box) ?_))
  refine H0.out.mono ?_
  clear H0
  rintro r w3 ⟨a3, cap3, rs3, sa3, scap3, ea3, ecap3, rfl, hs_, hl_, he_, hb_⟩
  have HD_ := Lib.hid (HD.out.keep hb_); clear HD; have HD := HD_; clear HD_
  have hbw_ := hbw.trans (hb_.mono hbw.size); clear hbw; have hbw := hbw_; clear hbw_
  have hnil3 := own_nilc2 hl_
  have HS3 := Lib.hid hs_.shsC; have HL3 := Lib.hid (lvls_of_own hl_ rfl); have HE3 := Lib.hid (evs_of_own he_ rfl); clear hs_ hl_ he_ hb_
  go_upto_region 5 with (first | ((with_reducible show wpList _ _ _ (⟨_, Op.store 40 _ _, _, _, _, _⟩ :: _) _ _); refine wsq w3.heap.size (Dc.cl e (.slice a3 xs.length cap3) (.slice sa3 ls.length scap3)).toArray (hset_new rfl) (one_Dec _ _ _ _ _ _ _) ?_))
  have hbn : Below w3.heap.size w3 ((w3.alloc (.cells dz0.toArray 40)).setRow w3.heap.size (Dc.cl e (.slice a3 xs.length cap3) (.slice sa3 ls.length scap3)).toArray) := by exact bl
  have hnew := Hd.new (w := w3) (d := e) (cap := cap3) (scap := scap3) HS3.out HL3.out (fun e => (hnil3 e).2)
  obtain ⟨w4, hw_⟩ : ∃ q, ((w3.alloc (.cells dz0.toArray 40)).setRow w3.heap.size (Dc.cl e (.slice a3 xs.length cap3) (.slice sa3 ls.length scap3)).toArray) = q := ⟨_, rfl⟩
  rw [hw_] at hbn hnew ⊢
  clear hw_
  obtain ⟨BX, hB_⟩ : ∃ q, w3.heap.size = q := ⟨_, rfl⟩
  rw [hB_] at hnew
  try simp only [hB_]
  clear hB_
  have HX := Lib.hid hnew; clear hnew
  have HD_ := Lib.hid (HD.out.keep hbn); clear HD; have HD := HD_; clear HD_
  have HE3_ := Lib.hid (Sl.keep HE3.out hbn); clear HE3; have HE3 := HE3_; clear HE3_
  have hbw_ := hbw.trans (hbn.mono hbw.size); clear hbw hbn; have hbw := hbw_; clear hbw_
  try simp only [Act.put]
  clear HS3 HL3 hnil3
  have h0 := specTag_any d ad capd xs sd scapd ls u w4 HD.out.sh HD.out.lv (by omega) hms (by omega) HD.out.nil hu
  rw [HO.out] at h0
  have H0 := Lib.hid h0; clear h0
  go_wp2_with (first | ((with_reducible show wpList _ _ _ (⟨_, Op.load 40 _, _, _, _, _⟩ :: _) _ _); refine wlm BD (Dc.cl d (.slice ad xs.length capd) (.slice sd ls.length scapd)) (range_of_box (t := 40) HD.out.box) ?_))
  refine H0.out.mono ?_
  clear H0 HO
  rintro r w5 ⟨a5, cap5, rs5, sa5, scap5, ea5, ecap5, rfl, hs_, hl_, he_, hb_⟩
  have HD_ := Lib.hid (HD.out.keep hb_); clear HD; have HD := HD_; clear HD_
  have HX_ := Lib.hid (HX.out.keep hb_); clear HX; have HX := HX_; clear HX_
  have HE3_ := Lib.hid (Sl.keep HE3.out hb_); clear HE3; have HE3 := HE3_; clear HE3_
  have hbw_ := hbw.trans (hb_.mono hbw.size); clear hbw; have hbw := hbw_; clear hbw_
  have hnil5 := own_nilc2 hl_
  have HS5 := Lib.hid hs_.shsC; have HL5 := Lib.hid (lvls_of_own hl_ rfl); have HE5 := Lib.hid (evs_of_own he_ rfl); clear hs_ hl_ he_ hb_
  go_upto_region 6 with (first | ((with_reducible show wpList _ _ _ (⟨_, Op.store 40 _ _, _, _, _, _⟩ :: _) _ _); refine wsq w5.heap.size (Dc.cl e (.slice a5 xs.length cap5) (.slice sa5 ls.length scap5)).toArray (hset_new rfl) (one_Dec _ _ _ _ _ _ _) ?_))
  have hbn : Below w5.heap.size w5 ((w5.alloc (.cells dz0.toArray 40)).setRow w5.heap.size (Dc.cl e (.slice a5 xs.length cap5) (.slice sa5 ls.length scap5)).toArray) := by exact bl
  have hnew := Hd.new (w := w5) (d := e) (cap := cap5) (scap := scap5) HS5.out HL5.out (fun e => (hnil5 e).2)
  obtain ⟨w6, hw_⟩ : ∃ q, ((w5.alloc (.cells dz0.toArray 40)).setRow w5.heap.size (Dc.cl e (.slice a5 xs.length cap5) (.slice sa5 ls.length scap5)).toArray) = q := ⟨_, rfl⟩
  rw [hw_] at hbn hnew ⊢
  clear hw_
  obtain ⟨BY, hB_⟩ : ∃ q, w5.heap.size = q := ⟨_, rfl⟩
  rw [hB_] at hnew
  try simp only [hB_]
  clear hB_
  have HY := Lib.hid hnew; clear hnew
  have HD_ := Lib.hid (HD.out.keep hbn); clear HD; have HD := HD_; clear HD_
  have HX_ := Lib.hid (HX.out.keep hbn); clear HX; have HX := HX_; clear HX_
  have HE3_ := Lib.hid (Sl.keep HE3.out hbn); clear HE3; have HE3 := HE3_; clear HE3_
  have HE5_ := Lib.hid (Sl.keep HE5.out hbn); clear HE5; have HE5 := HE5_; clear HE5_
  have hbw_ := hbw.trans (hbn.mono hbw.size); clear hbw hbn; have hbw := hbw_; clear hbw_
  try simp only [Act.put]
  clear HS5 HL5 hnil5
  go_wp2_with (first | ((with_reducible show wpList _ _ _ (⟨_, Op.load 40 _, _, _, _, _⟩ :: _) _ _); refine wlm BX (Dc.cl e (.slice a3 xs.length cap3) (.slice sa3 ls.length scap3)) (range_of_box (t := 40) HX.out.box) ?_) | ((with_reducible show wpList _ _ _ (⟨_, Op.load 40 _, _, _, _, _⟩ :: _) _ _); refine wlm BY (Dc.cl e (.slice a5 xs.length cap5) (.slice sa5 ls.length scap5)) (range_of_box (t := 40) HY.out.box) ?_))
  refine (specSameDec_any e a3 cap3 _ xs sa3 scap3 _ ls e a5 cap5 _ xs sa5 scap5 _ ls _ HX.out.sh.shs HX.out.lv rfl rfl (by omega) hms (by omega) HY.out.sh.shs HY.out.lv rfl rfl (by omega) hms (by omega)).mono ?_
  rintro r w7 ⟨rfl, hb_⟩
  rw [sameDec_self]
  have HX_ := Lib.hid (HX.out.keep hb_); clear HX; have HX := HX_; clear HX_
  have HY_ := Lib.hid (HY.out.keep hb_); clear HY; have HY := HY_; clear HY_
  have HD_ := Lib.hid (HD.out.keep hb_); clear HD; have HD := HD_; clear HD_
  have HE3_ := Lib.hid (Sl.keep HE3.out hb_); clear HE3; have HE3 := HE3_; clear HE3_
  have HE5_ := Lib.hid (Sl.keep HE5.out hb_); clear HE5; have HE5 := HE5_; clear HE5_
  have hbw_ := hbw.trans (hb_.mono hbw.size); clear hbw; have hbw := hbw_; clear hbw_
  clear hb_
  go_wp2_with fail
  refine (specSameEvents_any ea3 ea5 ecap3 ecap5 _ _ es es _ HE3.out HE5.out rfl rfl (by omega) (by omega)).mono ?_
  rintro r w8 ⟨rfl, hb_⟩
  rw [show decide (es = es) = true by simp]
  have HX_ := Lib.hid (HX.out.keep hb_); clear HX; have HX := HX_; clear HX_
  have HD_ := Lib.hid (HD.out.keep hb_); clear HD; have HD := HD_; clear HD_
  have HE3_ := Lib.hid (Sl.keep HE3.out hb_); clear HE3; have HE3 := HE3_; clear HE3_
  have hbw_ := hbw.trans (hb_.mono hbw.size); clear hbw; have hbw := hbw_; clear hbw_
  clear hb_
  clear HE5 HY
  have kD := box_cells HD.out.box; have fD := box_frozen HD.out.box; have hBD := box_lt HD.out.box
  have kX := box_cells HX.out.box; have fX := box_frozen HX.out.box; have hBX := box_lt HX.out.box
  rcases HC.out with rfl | ⟨⟨fk, ff, fb, fl, ft, fc, fa⟩, rfl, hk, hmode⟩
  ·clear HC
   go_wp2
   go_ret
   exact ⟨rfl, hbw⟩
  ·clear HC
   obtain ⟨b, off, rfl, hlb, c0, c1, c2, c3, c4, c5, c6⟩ := Evs.at (k := 0) HE3.out rfl
   simp only [Nat.zero_mul, Nat.add_zero] at c0
   clear c1 c2 c3 c4 c5 c6
   have hkk : (fk == 10) = true := by simp only at hk; simp [hk]
   have hmm : (e.mode == 9) = true := by simp [hmode]
   clear hk hmode
   go_wp2
   go_ret
   exact ⟨rfl, hbw⟩
set_option maxRecDepth 100000 in
theorem lifted (os : Os) (started : os.Started) (H : Type) (enc : TypeId × Value → H) :
  ReturnsInHanded {} Tryz.checked os 6 .any (Rows.fnTagStepSpec.pre6 enc Tryz.prog Tryz.f6 Rows.fnTagStepRow.domain false) (Rows.fnTagStepSpec.post enc Tryz.prog Tryz.f6 false true false false) := by
 refine returnsInHanded_of_change (C := Tryz.checked) own started (by kernel_rfl) Tryz.func6
  (ChangeSpec.witness6 (enc := enc) (C := Tryz.checked) false ⟨#[], #[.slice none 0 0], []⟩ 8 (by kernel_rfl) (by kernel_rfl) (by kernel_rfl) (by kernel_rfl)) ?_
 intro W base args ds gs before hval0 hW hcnd _
 have hval : ∀ (j : Nat) t v, Tryz.f6.params[j]? = some t → args[j]? = some v → Value.okWide Tryz.prog W .any base t v := hval0
 have hW' := hW
 obtain ⟨p, q, hA0, hV, rfl, hfz, hnd⟩ := hW
 have hA : DataW.TrodAll enc Tryz.prog W 0 (fun _ => true) true Tryz.f6.params.toList args.toList ds p := hA0
 rw [Tryz.params6] at hA hval
 obtain ⟨v0, vs0, d0, ds0, p0, q0, hargs, rfl, rfl, h0, r0⟩ := trodAll_cons hA
 obtain ⟨rfl, rfl, rfl⟩ := trodAll_nil r0
 obtain rfl : args = #[v0] := by cases args; simp_all
 obtain ⟨rfl, rfl⟩ := trodVars_none hV
 have k0 := h0
 have lt0 : ∀ x ∈ p0, x.block < W.heap.size := by obtain ⟨m, hm⟩ := k0; exact DataW.trod_lt m _ _ _ hm
 obtain ⟨x0, e0, w0⟩ := openBytes (hval 0 22 v0 rfl rfl) h0
 subst e0
 clear hA0 hval0
 refine (walk W x0 w0).mono fun e W' ⟨he, bel⟩ => ?_
 subst he
 exact ⟨_, rfl, _, _, _, [], _, [], hW', trodAll_mk1 (shut_bool Tryz.underlying4 _), (trodAll_cons_mk (Below.trod laidOut (by kernel_rfl) (of_decide_eq_true (by kernel_rfl)) k0 bel lt0) trodAll_mk0), rfl, bel.frame _, fun h => by cases h⟩
theorem over : Rows.fnTagStepRow.holds Tryz.pinned (OpenSpec.ofChange Rows.fnTagStepSpec) :=
 OpenClaim.holds_of_wide 6 Tryz.f6 rfl rfl rfl rfl rfl rfl rfl ⟨rfl, rfl, rfl, rfl, rfl⟩ rfl rfl rfl rfl rfl (by kernel_rfl) Tryz.func6 (by kernel_rfl)
  (of_decide_eq_true (by kernel_rfl)) (by unfold Func.isWrapper; first | (rw [if_pos (by decide +kernel)]; kernel_rfl) | (rw [if_neg (by decide +kernel)]; exact ⟨rfl, rfl⟩))
  (fun os started H enc _ => lifted os started H enc)
theorem proved : Rows.FnTagStepSaid := over
end Go.Proofs.YtabdjimjelfbfaaGreat.fnTagStep

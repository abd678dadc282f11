/- FnFails: a decoder that failed is stopped, tells its failure and retains nothing, for every code. No condition. (Printed by wip/tools/lawdgen.py.) -/
import Derived.Test.YtabdjimjelfbfaaGreatFails1
import Derived.Test.YtabdjimjelfbfaaGreatFails2
import Derived.Test.YtabdjimjelfbfaaGreatFails3
import Derived.Test.YtabdjimjelfbfaaGreatFails4
import Derived.Test.YtabdjimjelfbfaaGreatFails5
import Derived.Test.YtabdjimjelfbfaaGreatFails6
import Derived.Test.YtabdjimjelfbfaaGreatFails7
import Derived.Test.YtabdjimjelfbfaaGreatFails8
import Derived.Test.YtabdjimjelfbfaaGreatFails9
import Derived.Test.YtabdjimjelfbfaaGreatFails10
import Derived.Test.YtabdjimjelfbfaaGreatFails11
import Derived.Test.YtabdjimjelfbfaaGreatFails12
import Derived.Test.YtabdjimjelfbfaaGreatFails13
import Derived.Test.YtabdjimjelfbfaaGreatFails14
import Derived.Test.YtabdjimjelfbfaaGreatFails15
namespace Go.Proofs.YtabdjimjelfbfaaGreat.fnFails
set_option linter.unusedSimpArgs false
set_option linter.unusedVariables false
open Go.ChangeShapes Go.WideShapes Go.ChangeAt Go.RowKit Go.BigFrame
theorem failsO_case (d : Dc) (xs : List Shp) (ls : List Lvl) (c t : Int) : (failsO d xs ls c t).2.2 = [] ∨ ((failsO d xs ls c t).2.2 = [(failsO d xs ls c t).1.end_] ∧ (failsO d xs ls c t).1.mode = 9 ∧ (failsO d xs ls c t).1.have_ = 0) := by
 unfold failsO; split
 ·exact .inr ⟨rfl, rfl, rfl⟩
 ·exact .inl rfl
theorem failsO_ls (d : Dc) (xs : List Shp) (ls : List Lvl) (c t : Int) : (failsO d xs ls c t).2.1 = ls := by unfold failsO; split <;> rfl
set_option maxRecDepth 100000 in
set_option maxHeartbeats 8000000 in
theorem walk (w : World) (x : SlArg Int) (hx : x.ok 1 byCs ByOk w) :
  Calls Tryz.prog 3 #[.slice x.a x.xs.length x.cap] w fun r w' => r = .returned (.bool true) ∧ Below w.heap.size w w' := by
 have hcode := code_of hx
 obtain ⟨a, cap, bs⟩ := x
 obtain ⟨_, _, hle, hcap⟩ := hx
 simp only at hcode hle hcap ⊢
 by_cases hbig : (1048576 : Int) < (bs.length : Int)
 ·go_enter Tryz.func3, Tryz.ntmps3
  go_wp2_with (first | (go_at_call 8; refine (big_any _ _ _ _).mono ?_; rintro r w1 ⟨rfl, rfl⟩))
  go_ret
  exact ⟨rfl, by exact bl⟩
 ·go_enter Tryz.func3, Tryz.ntmps3
  go_wp2_with (first | (go_at_call 8; refine (big_any _ _ _ _).mono ?_; rintro r w1 ⟨rfl, rfl⟩))
  refine (drawFails_any a cap bs.length w hcode (by omega)).mono ?_
  rintro r w1 ⟨d, xs, ls, ad, capd, sd, scapd, c, t, rfl, hs, hl, hnil, hg, h9, hb1⟩
  have hn7 := hg.n
  have hms := hg.sum
  clear hcode hg
  have hbw := hb1; clear hb1
  go_upto_region 4 with (first | ((with_reducible show wpList _ _ _ (⟨_, Op.store 40 _ _, _, _, _, _⟩ :: _) _ _); refine wsq w1.heap.size (Dc.cl d (.slice ad xs.length capd) (.slice sd ls.length scapd)).toArray (hset_new rfl) (one_Dec _ _ _ _ _ _ _) ?_))
  have hbn : Below w1.heap.size w1 ((w1.alloc (.cells dz0.toArray 40)).setRow w1.heap.size (Dc.cl d (.slice ad xs.length capd) (.slice sd ls.length scapd)).toArray) := by exact bl
  have hnew := Hd.new (w := w1) (d := d) (cap := capd) (scap := scapd) hs hl hnil
  obtain ⟨w2, hw_⟩ : ∃ q, ((w1.alloc (.cells dz0.toArray 40)).setRow w1.heap.size (Dc.cl d (.slice ad xs.length capd) (.slice sd ls.length scapd)).toArray) = q := ⟨_, rfl⟩
  rw [hw_] at hbn hnew ⊢
  clear hw_
  obtain ⟨BD, hB_⟩ : ∃ q, w1.heap.size = q := ⟨_, rfl⟩
  rw [hB_] at hnew
  try simp only [hB_]
  clear hB_
  have HD := Lib.hid hnew; clear hnew
  have hbw_ := hbw.trans (hbn.mono hbw.size); clear hbw hbn; have hbw := hbw_; clear hbw_
  try simp only [Act.put]
  clear hs hl hnil
  obtain ⟨⟨e, ms, es⟩, hO⟩ : ∃ q, failsO d xs ls c t = q := ⟨_, rfl⟩
  have hcase := failsO_case d xs ls c t
  have hmsl := failsO_ls d xs ls c t
  rw [hO] at hcase hmsl
  simp only at hcase hmsl
  have HO := Lib.hid hO; clear hO
  have hml9 : ms.length ≤ 9 := by rw [hmsl]; exact h9
  clear hmsl
  have hes : es.length ≤ 1 := by rcases hcase with h | h <;> (first | rw [h] | rw [h.1]) <;> simp
  have HC := Lib.hid hcase; clear hcase
  have h0 := implFails_any d ad capd xs sd scapd ls c t w2 HD.out.sh HD.out.lv (by omega) hms (by omega) HD.out.nil
  rw [HO.out] at h0
  have H0 := Lib.hid h0; clear h0
  go_wp2_with (first | ((with_reducible show wpList _ _ _ (⟨_, Op.load 40 _, _, _, _, _⟩ :: _) _ _); refine wlm BD (Dc.cl d (.slice ad xs.length capd) (.slice sd ls.length scapd)) (range_of_box (t := 40) HD.out.box) ?_))
  refine H0.out.mono ?_
  clear H0
  rintro r w3 ⟨a3, cap3, rs3, sa3, scap3, ea3, ecap3, rfl, hs_, hl_, he_, hb_⟩
  have HD_ := Lib.hid (HD.out.keep hb_); clear HD; have HD := HD_; clear HD_
  have hbw_ := hbw.trans (hb_.mono hbw.size); clear hbw; have hbw := hbw_; clear hbw_
  have hnil3 := own_nilc2 hl_
  have HS3 := Lib.hid hs_.shsC; have HL3 := Lib.hid (lvls_of_own hl_ rfl); have HE3 := Lib.hid (evs_of_own he_ rfl); clear hs_ hl_ he_ hb_
  go_upto_region 5 with (first | ((with_reducible show wpList _ _ _ (⟨_, Op.store 40 _ _, _, _, _, _⟩ :: _) _ _); refine wsq w3.heap.size (Dc.cl e (.slice a3 xs.length cap3) (.slice sa3 ms.length scap3)).toArray (hset_new rfl) (one_Dec _ _ _ _ _ _ _) ?_))
  have hbn : Below w3.heap.size w3 ((w3.alloc (.cells dz0.toArray 40)).setRow w3.heap.size (Dc.cl e (.slice a3 xs.length cap3) (.slice sa3 ms.length scap3)).toArray) := by exact bl
  have hnew := Hd.new (w := w3) (d := e) (cap := cap3) (scap := scap3) HS3.out HL3.out (fun e => (hnil3 e).2)
  obtain ⟨w4, hw_⟩ : ∃ q, ((w3.alloc (.cells dz0.toArray 40)).setRow w3.heap.size (Dc.cl e (.slice a3 xs.length cap3) (.slice sa3 ms.length scap3)).toArray) = q := ⟨_, rfl⟩
  rw [hw_] at hbn hnew ⊢
  clear hw_
  obtain ⟨BX, hB_⟩ : ∃ q, w3.heap.size = q := ⟨_, rfl⟩
  rw [hB_] at hnew
  try simp only [hB_]
  clear hB_
  have HX := Lib.hid hnew; clear hnew
  have HD_ := Lib.hid (HD.out.keep hbn); clear HD; have HD := HD_; clear HD_
  have HE3_ := Lib.hid (Sl.keep HE3.out hbn); clear HE3; have HE3 := HE3_; clear HE3_
  have hbw_ := hbw.trans (hbn.mono hbw.size); clear hbw hbn; have hbw := hbw_; clear hbw_
  try simp only [Act.put]
  clear HS3 HL3 hnil3
  have h0 := specFails_any d ad capd xs sd scapd ls c t w4 HD.out.sh HD.out.lv (by omega) hms (by omega) HD.out.nil
  rw [HO.out] at h0
  have H0 := Lib.hid h0; clear h0
  go_wp2_with (first | ((with_reducible show wpList _ _ _ (⟨_, Op.load 40 _, _, _, _, _⟩ :: _) _ _); refine wlm BD (Dc.cl d (.slice ad xs.length capd) (.slice sd ls.length scapd)) (range_of_box (t := 40) HD.out.box) ?_))
  refine H0.out.mono ?_
  clear H0 HO
  rintro r w5 ⟨a5, cap5, rs5, sa5, scap5, ea5, ecap5, rfl, hs_, hl_, he_, hb_⟩
  have HD_ := Lib.hid (HD.out.keep hb_); clear HD; have HD := HD_; clear HD_
  have HX_ := Lib.hid (HX.out.keep hb_); clear HX; have HX := HX_; clear HX_
  have HE3_ := Lib.hid (Sl.keep HE3.out hb_); clear HE3; have HE3 := HE3_; clear HE3_
  have hbw_ := hbw.trans (hb_.mono hbw.size); clear hbw; have hbw := hbw_; clear hbw_
  have hnil5 := own_nilc2 hl_
  have HS5 := Lib.hid hs_.shsC; have HL5 := Lib.hid (lvls_of_own hl_ rfl); have HE5 := Lib.hid (evs_of_own he_ rfl); clear hs_ hl_ he_ hb_
  go_upto_region 6 with (first | ((with_reducible show wpList _ _ _ (⟨_, Op.store 40 _ _, _, _, _, _⟩ :: _) _ _); refine wsq w5.heap.size (Dc.cl e (.slice a5 xs.length cap5) (.slice sa5 ms.length scap5)).toArray (hset_new rfl) (one_Dec _ _ _ _ _ _ _) ?_))
  have hbn : Below w5.heap.size w5 ((w5.alloc (.cells dz0.toArray 40)).setRow w5.heap.size (Dc.cl e (.slice a5 xs.length cap5) (.slice sa5 ms.length scap5)).toArray) := by exact bl
  have hnew := Hd.new (w := w5) (d := e) (cap := cap5) (scap := scap5) HS5.out HL5.out (fun e => (hnil5 e).2)
  obtain ⟨w6, hw_⟩ : ∃ q, ((w5.alloc (.cells dz0.toArray 40)).setRow w5.heap.size (Dc.cl e (.slice a5 xs.length cap5) (.slice sa5 ms.length scap5)).toArray) = q := ⟨_, rfl⟩
  rw [hw_] at hbn hnew ⊢
  clear hw_
  obtain ⟨BY, hB_⟩ : ∃ q, w5.heap.size = q := ⟨_, rfl⟩
  rw [hB_] at hnew
  try simp only [hB_]
  clear hB_
  have HY := Lib.hid hnew; clear hnew
  have HD_ := Lib.hid (HD.out.keep hbn); clear HD; have HD := HD_; clear HD_
  have HX_ := Lib.hid (HX.out.keep hbn); clear HX; have HX := HX_; clear HX_
  have HE3_ := Lib.hid (Sl.keep HE3.out hbn); clear HE3; have HE3 := HE3_; clear HE3_
  have HE5_ := Lib.hid (Sl.keep HE5.out hbn); clear HE5; have HE5 := HE5_; clear HE5_
  have hbw_ := hbw.trans (hbn.mono hbw.size); clear hbw hbn; have hbw := hbw_; clear hbw_
  try simp only [Act.put]
  clear HS5 HL5 hnil5
  go_wp2_with (first | ((with_reducible show wpList _ _ _ (⟨_, Op.load 40 _, _, _, _, _⟩ :: _) _ _); refine wlm BX (Dc.cl e (.slice a3 xs.length cap3) (.slice sa3 ms.length scap3)) (range_of_box (t := 40) HX.out.box) ?_) | ((with_reducible show wpList _ _ _ (⟨_, Op.load 40 _, _, _, _, _⟩ :: _) _ _); refine wlm BY (Dc.cl e (.slice a5 xs.length cap5) (.slice sa5 ms.length scap5)) (range_of_box (t := 40) HY.out.box) ?_))
  refine (specSameDec_any e a3 cap3 _ xs sa3 scap3 _ ms e a5 cap5 _ xs sa5 scap5 _ ms _ HX.out.sh.shs HX.out.lv rfl rfl (by omega) hms (by omega) HY.out.sh.shs HY.out.lv rfl rfl (by omega) hms (by omega)).mono ?_
  rintro r w7 ⟨rfl, hb_⟩
  rw [sameDec_self]
  have HX_ := Lib.hid (HX.out.keep hb_); clear HX; have HX := HX_; clear HX_
  have HY_ := Lib.hid (HY.out.keep hb_); clear HY; have HY := HY_; clear HY_
  have HE3_ := Lib.hid (Sl.keep HE3.out hb_); clear HE3; have HE3 := HE3_; clear HE3_
  have HE5_ := Lib.hid (Sl.keep HE5.out hb_); clear HE5; have HE5 := HE5_; clear HE5_
  have hbw_ := hbw.trans (hb_.mono hbw.size); clear hbw; have hbw := hbw_; clear hbw_
  clear hb_
  go_wp2_with fail
  refine (specSameEvents_any ea3 ea5 ecap3 ecap5 _ _ es es _ HE3.out HE5.out rfl rfl (by omega) (by omega)).mono ?_
  rintro r w8 ⟨rfl, hb_⟩
  rw [show decide (es = es) = true by simp]
  have HX_ := Lib.hid (HX.out.keep hb_); clear HX; have HX := HX_; clear HX_
  have HE3_ := Lib.hid (Sl.keep HE3.out hb_); clear HE3; have HE3 := HE3_; clear HE3_
  have hbw_ := hbw.trans (hb_.mono hbw.size); clear hbw; have hbw := hbw_; clear hbw_
  clear hb_
  clear HE5 HY HD
  rcases HC.out with rfl | ⟨rfl, hmode, hhave⟩
  ·clear HC
   go_upto_region 8 with fail
   refine wp_region_till (fun _ => True) (fun _ => false) (by kernel_rfl) ?_
   have hS : True := trivial
   refine tk (i := 0) hS ?_
   refine tk (i := 1) hS ?_
   refine tk (i := 2) hS ?_
   refine tk (i := 3) hS ?_
   refine tks (i := 4) hS ?_
   refine tks (i := 5) hS ?_
   refine tks (i := 6) hS ?_
   refine tks (i := 7) hS ?_
   refine tks (i := 8) hS ?_
   refine tks (i := 9) hS ?_
   refine tks (i := 10) hS ?_
   refine tks (i := 11) hS ?_
   refine tks (i := 12) hS ?_
   refine tks (i := 13) hS ?_
   refine tks (i := 14) hS ?_
   refine tks (i := 15) hS ?_
   refine tks (i := 16) hS ?_
   refine tks (i := 17) hS ?_
   refine tks (i := 18) hS ?_
   refine tks (i := 19) hS ?_
   refine tks (i := 20) hS ?_
   refine tks (i := 21) hS ?_
   refine tks (i := 22) hS ?_
   refine tks (i := 23) hS ?_
   refine tks (i := 24) hS ?_
   refine tk (i := 25) hS ?_
   refine wpTill_op (i := 26) (by kernel_rfl) rfl (fun K hK => ?_)
   go_simp
   refine hK.out _ _ (fun _ => trivial) ?_
   clear hK K
   refine wpTill_done (by kernel_rfl) ?_ _
   go_wp2
   go_ret
   exact ⟨rfl, hbw.trans ((Below.refl w8.heap.size w8).drew.mono hbw.size)⟩
  ·clear HC
   obtain ⟨b, off, rfl, hlb, c0, c1, c2, c3, c4, c5, c6⟩ := Evs.at (k := 0) HE3.out rfl
   simp only [Nat.zero_mul, Nat.add_zero] at c0 c1 c2 c3 c4 c5 c6
   have g9 : (e.mode == 9) = true := by simp; omega
   have g0 : (e.have_ == 0) = true := by simp; omega
   have hse := sameEv_self ⟨e.end_.kind, e.end_.field, e.end_.bits, e.end_.len, e.end_.text, e.end_.code, e.end_.at_⟩
   have hne := run_eql_ev
   clear hmode hhave
   go_upto_region 8 with fail
   refine wp_region_till (fun w' : World => (∀ i : Nat, w'.cell? ⟨BX, i, none⟩ = ((Dc.cl e (.slice a3 xs.length cap3) (.slice sa3 ms.length scap3)).toArray : Array Value)[i]?) ∧ Cells [(⟨b, off, none⟩, .int .i64 e.end_.kind), (⟨b, off + 1, none⟩, .int .i64 e.end_.field), (⟨b, off + 2, none⟩, .int .u64 e.end_.bits), (⟨b, off + 3, none⟩, .int .i64 e.end_.len), (⟨b, off + 4, none⟩, .string e.end_.text), (⟨b, off + 5, none⟩, .int .i64 e.end_.code), (⟨b, off + 6, none⟩, .int .i64 e.end_.at_)] w') (fun _ => false) (by kernel_rfl) ?_
   have hS : (fun w' : World => (∀ i : Nat, w'.cell? ⟨BX, i, none⟩ = ((Dc.cl e (.slice a3 xs.length cap3) (.slice sa3 ms.length scap3)).toArray : Array Value)[i]?) ∧ Cells [(⟨b, off, none⟩, .int .i64 e.end_.kind), (⟨b, off + 1, none⟩, .int .i64 e.end_.field), (⟨b, off + 2, none⟩, .int .u64 e.end_.bits), (⟨b, off + 3, none⟩, .int .i64 e.end_.len), (⟨b, off + 4, none⟩, .string e.end_.text), (⟨b, off + 5, none⟩, .int .i64 e.end_.code), (⟨b, off + 6, none⟩, .int .i64 e.end_.at_)] w') w8.drew := ⟨box_cells HX.out.box, cells_mk c0 (cells_mk c1 (cells_mk c2 (cells_mk c3 (cells_mk c4 (cells_mk c5 (cells_mk c6 (cells_no _)))))))⟩
   clear c0 c1 c2 c3 c4 c5 c6
   refine tk (i := 0) hS ?_
   refine tk (i := 1) hS ?_
   refine tk (i := 2) hS ?_
   refine tk (i := 3) hS ?_
   refine tk (i := 4) hS ?_
   refine tk (i := 5) hS ?_
   refine tk (i := 6) hS ?_
   refine tk (i := 7) hS ?_
   refine tk (i := 8) hS ?_
   refine tk (i := 9) hS ?_
   refine tk (i := 10) hS ?_
   refine tk (i := 11) hS ?_
   refine tk (i := 12) hS ?_
   refine tk (i := 13) hS ?_
   refine tk (i := 14) hS ?_
   refine tk (i := 15) hS ?_
   refine tk (i := 16) hS ?_
   refine tk (i := 17) hS ?_
   refine tk (i := 18) hS ?_
   refine tk (i := 19) hS ?_
   refine tk (i := 20) hS ?_
   refine' wpTill_take (i := 21) (oi := _) (v := _) rfl (by kernel_rfl) (by kernel_rfl) (by kernel_rfl) (by kernel_rfl) (fun _ _ _ h => h) (yieldsIf_load_mid (by rfl) _ _ rfl _ _ rfl (Dc.cl e (.slice a3 xs.length cap3) (.slice sa3 ms.length scap3)) _ (fun wq hq => range_of_cells hq.1) Tryz.underlying40 rfl size_Dec) hS ?_
   try simp only [List.getElem_toArray, List.getElem_cons_succ, List.getElem_cons_zero, Act.put, List.setIfInBounds_toArray, List.set_cons_zero, List.set_cons_succ]
   refine wpTill_op (i := 22) (by kernel_rfl) rfl (fun K hK => ?_)
   go_simp
   refine (implRetD_any e _ _ _).mono ?_
   rintro r w9 ⟨rfl, hb9⟩
   have hbd : Below w8.heap.size w8.drew w9 := hb9
   have hS9 : (fun w' : World => (∀ i : Nat, w'.cell? ⟨BX, i, none⟩ = ((Dc.cl e (.slice a3 xs.length cap3) (.slice sa3 ms.length scap3)).toArray : Array Value)[i]?) ∧ Cells [(⟨b, off, none⟩, .int .i64 e.end_.kind), (⟨b, off + 1, none⟩, .int .i64 e.end_.field), (⟨b, off + 2, none⟩, .int .u64 e.end_.bits), (⟨b, off + 3, none⟩, .int .i64 e.end_.len), (⟨b, off + 4, none⟩, .string e.end_.text), (⟨b, off + 5, none⟩, .int .i64 e.end_.code), (⟨b, off + 6, none⟩, .int .i64 e.end_.at_)] w') w9 := ⟨fun i => (hb9.cell (p := ⟨BX, i, none⟩) (box_lt HX.out.box)).trans (hS.1 i), hS.2.below hb9⟩
   clear hS
   refine hK.out _ _ (fun _ => hS9) ?_
   clear hK K
   try simp only [List.getElem_toArray, List.getElem_cons_succ, List.getElem_cons_zero, Act.put, List.setIfInBounds_toArray, List.set_cons_zero, List.set_cons_succ]
   have hS := hS9; clear hS9
   refine tk (i := 23) hS ?_
   refine tk (i := 24) hS ?_
   refine tk (i := 25) hS ?_
   refine wpTill_op (i := 26) (by kernel_rfl) rfl (fun K hK => ?_)
   go_simp
   refine hK.out _ _ (fun _ => hS) ?_
   clear hK K
   refine wpTill_done (by kernel_rfl) ?_ _
   go_wp2
   go_ret
   exact ⟨rfl, hbw.trans (((Below.refl w8.heap.size w8).drew.trans hb9).mono hbw.size)⟩
set_option maxRecDepth 100000 in
theorem lifted (os : Os) (started : os.Started) (H : Type) (enc : TypeId × Value → H) :
  ReturnsInHanded {} Tryz.checked os 3 .any (Rows.fnFailsSpec.pre6 enc Tryz.prog Tryz.f3 Rows.fnFailsRow.domain false) (Rows.fnFailsSpec.post enc Tryz.prog Tryz.f3 false true false false) := by
 refine returnsInHanded_of_change (C := Tryz.checked) own started (by kernel_rfl) Tryz.func3
  (ChangeSpec.witness6 (enc := enc) (C := Tryz.checked) false ⟨#[], #[.slice none 0 0], []⟩ 8 (by kernel_rfl) (by kernel_rfl) (by kernel_rfl) (by kernel_rfl)) ?_
 intro W base args ds gs before hval0 hW hcnd _
 have hval : ∀ (j : Nat) t v, Tryz.f3.params[j]? = some t → args[j]? = some v → Value.okWide Tryz.prog W .any base t v := hval0
 have hW' := hW
 obtain ⟨p, q, hA0, hV, rfl, hfz, hnd⟩ := hW
 have hA : DataW.TrodAll enc Tryz.prog W 0 (fun _ => true) true Tryz.f3.params.toList args.toList ds p := hA0
 rw [Tryz.params3] at hA hval
 obtain ⟨v0, vs0, d0, ds0, p0, q0, hargs, rfl, rfl, h0, r0⟩ := trodAll_cons hA
 obtain ⟨rfl, rfl, rfl⟩ := trodAll_nil r0
 obtain rfl : args = #[v0] := by cases args; simp_all
 obtain ⟨rfl, rfl⟩ := trodVars_none hV
 have k0 := h0
 have lt0 : ∀ x ∈ p0, x.block < W.heap.size := by obtain ⟨m, hm⟩ := k0; exact DataW.trod_lt m _ _ _ hm
 obtain ⟨x0, e0, w0⟩ := openBytes (hval 0 22 v0 rfl rfl) h0
 subst e0
 clear hA0 hval0
 refine (walk W x0 w0).mono fun e W' ⟨he, bel⟩ => ?_
 subst he
 exact ⟨_, rfl, _, _, _, [], _, [], hW', trodAll_mk1 (shut_bool Tryz.underlying4 _), (trodAll_cons_mk (Below.trod laidOut (by kernel_rfl) (of_decide_eq_true (by kernel_rfl)) k0 bel lt0) trodAll_mk0), rfl, bel.frame _, fun h => by cases h⟩
theorem over : Rows.fnFailsRow.holds Tryz.pinned (OpenSpec.ofChange Rows.fnFailsSpec) :=
 OpenClaim.holds_of_wide 3 Tryz.f3 rfl rfl rfl rfl rfl rfl rfl ⟨rfl, rfl, rfl, rfl, rfl⟩ rfl rfl rfl rfl rfl (by kernel_rfl) Tryz.func3 (by kernel_rfl)
  (of_decide_eq_true (by kernel_rfl)) (by unfold Func.isWrapper; first | (rw [if_pos (by decide +kernel)]; kernel_rfl) | (rw [if_neg (by decide +kernel)]; exact ⟨rfl, rfl⟩))
  (fun os started H enc _ => lifted os started H enc)
theorem proved : Rows.FnFailsSaid := over
end Go.Proofs.YtabdjimjelfbfaaGreat.fnFails

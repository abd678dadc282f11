/- FnFinish: finishing succeeds exactly at a frame's boundary, and a decoder that is finished stands; for every code. No condition. (Printed by wip/tools/lawdgen.py.) -/
import Derived.Test.YtabdjimjelfbfaaGreatFinish1
import Derived.Test.YtabdjimjelfbfaaGreatFinish2
import Derived.Test.YtabdjimjelfbfaaGreatFinish3
import Derived.Test.YtabdjimjelfbfaaGreatFinish4
import Derived.Test.YtabdjimjelfbfaaGreatFinish5
import Derived.Test.YtabdjimjelfbfaaGreatFinish6
import Derived.Test.YtabdjimjelfbfaaGreatFinish7
import Derived.Test.YtabdjimjelfbfaaGreatFinish8
import Derived.Test.YtabdjimjelfbfaaGreatFinish9
import Derived.Test.YtabdjimjelfbfaaGreatFinish10
import Derived.Test.YtabdjimjelfbfaaGreatFinish11
import Derived.Test.YtabdjimjelfbfaaGreatFinish12
import Derived.Test.YtabdjimjelfbfaaGreatFinish13
import Derived.Test.YtabdjimjelfbfaaGreatFinish14
import Derived.Test.YtabdjimjelfbfaaGreatFinish15
import Derived.Test.YtabdjimjelfbfaaGreatFinish16
import Derived.Test.YtabdjimjelfbfaaGreatFinish17
import Derived.Test.YtabdjimjelfbfaaGreatFinish18
namespace Go.Proofs.YtabdjimjelfbfaaGreat.fnFinish
set_option linter.unusedSimpArgs false
set_option linter.unusedVariables false
open Go.ChangeShapes Go.WideShapes Go.ChangeAt Go.RowKit Go.BigFrame
theorem endE_ok {c t : Int} (hc : 1 ≤ c) (ht : 0 ≤ t) : eventOk (failE c t) = true ∧ terminal (failE c t) = true := by
 constructor
 ·unfold eventOk
  simp only [Bool.and_eq_true, decide_eq_true_eq]
  exact ⟨⟨⟨⟨rfl, by simp [failE, bareE]⟩, Int.le_refl _⟩, ht⟩, by simp [tailOk, failE, hc]⟩
 ·simp [terminal, failE]
theorem doneE_ok {t : Int} (ht : 0 ≤ t) : eventOk (doneE t) = true ∧ terminal (doneE t) = true := by
 constructor
 ·unfold eventOk
  simp only [Bool.and_eq_true, decide_eq_true_eq]
  exact ⟨⟨⟨⟨rfl, by simp [doneE, bareE]⟩, Int.le_refl _⟩, ht⟩, by simp [tailOk, doneE]⟩
 ·simp [terminal, doneE]
theorem finO_ok {d : Dc} {xs : List Shp} {ls : List Lvl} (h : decOk d xs ls = true) (h9 : ¬ d.mode = 9) : decOk (finO d xs ls).1 xs (finO d xs ls).2.1 = true := by
 have hd := h
 simp only [decOk, headOk, stackOk, Bool.and_eq_true] at h
 obtain ⟨⟨hp, hmode, hat, hst, hu, hw, hf, hlv, hif⟩, hend, hwant, hkind, hscan⟩ := h
 have hat' : 0 ≤ d.at_ := by simp only [inB, decide_eq_true_eq] at hat; omega
 have hdeep : (ls.length : Int) ≤ d.p.deep := by
  rw [if_neg h9] at hif
  split at hif
  ·have hp' := hp
   simp only [planOk, inB, Bool.and_eq_true, decide_eq_true_eq] at hp'
   simp only [decide_eq_true_eq] at hif; omega
  ·simp only [inB, Bool.and_eq_true, decide_eq_true_eq] at hif; omega
 unfold finO
 rw [if_pos ⟨hd, h9⟩]
 split
 ·rename_i hb
  simp only [atBoundary, Bool.and_eq_true, beq_iff_eq] at hb
  obtain ⟨_, hm1, hh0⟩ := hb
  have hw0 : d.want = 0 := by
   unfold wantOk at hwant; rw [hm1] at hwant; simpa using hwant
  have hb0 : d.bits = 0 := by
   unfold scanD at hscan; rw [hm1] at hscan
   simp only [scanOk, Bool.and_eq_true, decide_eq_true_eq] at hscan
   have h0 : d.bits / 2 ^ (7 * d.have_.toNat) = 0 := (by simpa [inB, scanOk] using hscan : (0 ≤ d.have_ ∧ d.have_ ≤ 9) ∧ d.bits / 2 ^ (7 * d.have_.toNat) = 0).2
   rw [hh0] at h0; simpa using h0
  have ho := doneE_ok hat'
  simp only [decOk, headOk, stackOk, endOk, wantOk, kindOk, scanD, doneD, Bool.and_eq_true]
  refine ⟨⟨hp, rfl, hat, hst, hu, hw, hf, hlv, decide_eq_true hdeep⟩, by simp [ho.1, ho.2], by simp [hw0], by simp, by simp [sameS, hb0, hh0]⟩
 ·have ho := endE_ok (c := 10) (by omega) hat'
  simp only [failO, decOk, headOk, stackOk, endOk, wantOk, kindOk, scanD, failD, Bool.and_eq_true]
  refine ⟨⟨hp, rfl, hat, hst, hu, hw, hf, hlv, decide_eq_true hdeep⟩, by simp [ho.1, ho.2], by simp, by simp, by simp [sameS]⟩
theorem finO_case (d : Dc) (xs : List Shp) (ls : List Lvl) : ((finO d xs ls) = (d, ls, []) ∧ (decOk d xs ls = false ∨ d.mode = 9)) ∨
  ∃ ev, (finO d xs ls).2.2 = [ev] ∧ (finO d xs ls).1.mode = 9 ∧ decOk (finO d xs ls).1 xs (finO d xs ls).2.1 = true ∧ (ev.kind == 9) = atBoundary d xs ls ∧ ev.at_ = d.at_ := by
 by_cases h : decOk d xs ls = true ∧ ¬ d.mode = 9
 ·right
  have hok := finO_ok h.1 h.2
  unfold finO at hok ⊢
  rw [if_pos h] at hok ⊢
  split at hok
  ·rename_i hb
   rw [if_pos hb]
   exact ⟨_, rfl, rfl, hok, by rw [hb]; rfl, rfl⟩
  ·rename_i hb
   rw [if_neg hb]
   exact ⟨_, rfl, rfl, hok, by simp only [Bool.not_eq_true] at hb; rw [hb]; rfl, rfl⟩
 ·left
  refine ⟨by unfold finO; rw [if_neg h], ?_⟩
  cases hd : decOk d xs ls
  ·exact .inl rfl
  ·right
   rcases Int.lt_trichotomy d.mode 9 with h1 | h1 | h1
   ·exact absurd ⟨hd, by omega⟩ h
   ·exact h1
   ·exact absurd ⟨hd, by omega⟩ h
theorem finO_ls (d : Dc) (xs : List Shp) (ls : List Lvl) : (finO d xs ls).2.1 = ls := by unfold finO; split; split <;> rfl; rfl
theorem finO_nine {d : Dc} {xs : List Shp} {ls : List Lvl} (h : d.mode = 9) : finO d xs ls = (d, ls, []) := by unfold finO; rw [if_neg (by intro g; exact g.2 h)]
set_option maxRecDepth 100000 in
set_option maxHeartbeats 8000000 in
theorem walk (w : World) (x : SlArg Int) (hx : x.ok 1 byCs ByOk w) :
  Calls Tryz.prog 7 #[.slice x.a x.xs.length x.cap] w fun r w' => r = .returned (.bool true) ∧ Below w.heap.size w w' := by
 have hcode := code_of hx
 obtain ⟨a, cap, bs⟩ := x
 obtain ⟨_, _, hle, hcap⟩ := hx
 simp only at hcode hle hcap ⊢
 by_cases hbig : (1048576 : Int) < (bs.length : Int)
 ·go_enter Tryz.func7, Tryz.ntmps7
  go_wp2_with (first | (go_at_call 8; refine (big_any _ _ _ _).mono ?_; rintro r w1 ⟨rfl, rfl⟩))
  go_ret
  exact ⟨rfl, by exact bl⟩
 ·go_enter Tryz.func7, Tryz.ntmps7
  go_wp2_with (first | (go_at_call 8; refine (big_any _ _ _ _).mono ?_; rintro r w1 ⟨rfl, rfl⟩))
  refine (drawFinish_any a cap bs.length w hcode (by omega)).mono ?_
  rintro r w1 ⟨d, xs, ls, ad, capd, sd, scapd, rfl, hs, hl, hnil, hg, h9, hb1⟩
  have hn7 := hg.n
  have hms := hg.sum
  clear hcode hg
  have hbw := hb1; clear hb1
  go_upto_region 4 with (first | ((with_reducible show wpList _ _ _ (⟨_, Op.store 40 _ _, _, _, _, _⟩ :: _) _ _); refine wsq w1.heap.size (Dc.cl d (.slice ad xs.length capd) (.slice sd ls.length scapd)).toArray (hset_new rfl) (one_Dec _ _ _ _ _ _ _) ?_))
  have hbn : Below w1.heap.size w1 ((w1.alloc (.cells dz0.toArray 40)).setRow w1.heap.size (Dc.cl d (.slice ad xs.length capd) (.slice sd ls.length scapd)).toArray) := by exact bl
  have hnew := Hd.new (w := w1) (d := d) (cap := capd) (scap := scapd) hs hl hnil
  obtain ⟨w2, hw_⟩ : ∃ q, ((w1.alloc (.cells dz0.toArray 40)).setRow w1.heap.size (Dc.cl d (.slice ad xs.length capd) (.slice sd ls.length scapd)).toArray) = q := ⟨_, rfl⟩
  rw [hw_] at hbn hnew ⊢
  clear hw_
  obtain ⟨BD, hB_⟩ : ∃ q, w1.heap.size = q := ⟨_, rfl⟩
  rw [hB_] at hnew
  try simp only [hB_]
  clear hB_
  have HD := Lib.hid hnew; clear hnew
  have hbw_ := hbw.trans (hbn.mono hbw.size); clear hbw hbn; have hbw := hbw_; clear hbw_
  try simp only [Act.put]
  clear hs hl hnil
  obtain ⟨⟨e, ms, es⟩, hO⟩ : ∃ q, finO d xs ls = q := ⟨_, rfl⟩
  have hcase := finO_case d xs ls
  have hmsl := finO_ls d xs ls
  rw [hO] at hcase hmsl
  simp only at hcase hmsl
  have HO := Lib.hid hO; clear hO
  have hml9 : ms.length ≤ 9 := by rw [hmsl]; exact h9
  clear hmsl
  have hes : es.length ≤ 1 := by rcases hcase with h | ⟨ev, h, _⟩ <;> (first | (have h' : es = [] := congrArg (fun q : Outc => q.2.2) h.1; rw [h']) | rw [h]) <;> simp
  have HC := Lib.hid hcase; clear hcase
  have h0 := implFinish_any d ad capd xs sd scapd ls w2 HD.out.sh HD.out.lv (by omega) hms (by omega) HD.out.nil
  rw [HO.out] at h0
  have H0 := Lib.hid h0; clear h0
  go_wp2_with (first | ((with_reducible show wpList _ _ _ (⟨_, Op.load 40 _, _, _, _, _⟩ :: _) _ _); refine wlm BD (Dc.cl d (.slice ad xs.length capd) (.slice sd ls.length scapd)) (range_of_box (t := 40) HD.out.box) ?_))
  refine H0.out.mono ?_
  clear H0
  rintro r w3 ⟨a3, cap3, rs3, sa3, scap3, ea3, ecap3, rfl, hs_, hl_, he_, hb_⟩
  have HD_ := Lib.hid (HD.out.keep hb_); clear HD; have HD := HD_; clear HD_
  have hbw_ := hbw.trans (hb_.mono hbw.size); clear hbw; have hbw := hbw_; clear hbw_
  have hnil3 := own_nilc2 hl_
  have HS3 := Lib.hid hs_.shsC; have HL3 := Lib.hid (lvls_of_own hl_ rfl); have HE3 := Lib.hid (evs_of_own he_ rfl); clear hs_ hl_ he_ hb_
  go_upto_region 5 with (first | ((with_reducible show wpList _ _ _ (⟨_, Op.store 40 _ _, _, _, _, _⟩ :: _) _ _); refine wsq w3.heap.size (Dc.cl e (.slice a3 xs.length cap3) (.slice sa3 ms.length scap3)).toArray (hset_new rfl) (one_Dec _ _ _ _ _ _ _) ?_))
  have hbn : Below w3.heap.size w3 ((w3.alloc (.cells dz0.toArray 40)).setRow w3.heap.size (Dc.cl e (.slice a3 xs.length cap3) (.slice sa3 ms.length scap3)).toArray) := by exact bl
  have hnew := Hd.new (w := w3) (d := e) (cap := cap3) (scap := scap3) HS3.out HL3.out (fun e => (hnil3 e).2)
  obtain ⟨w4, hw_⟩ : ∃ q, ((w3.alloc (.cells dz0.toArray 40)).setRow w3.heap.size (Dc.cl e (.slice a3 xs.length cap3) (.slice sa3 ms.length scap3)).toArray) = q := ⟨_, rfl⟩
  rw [hw_] at hbn hnew ⊢
  clear hw_
  obtain ⟨BX, hB_⟩ : ∃ q, w3.heap.size = q := ⟨_, rfl⟩
  rw [hB_] at hnew
  try simp only [hB_]
  clear hB_
  have HX := Lib.hid hnew; clear hnew
  have HD_ := Lib.hid (HD.out.keep hbn); clear HD; have HD := HD_; clear HD_
  have HE3_ := Lib.hid (Sl.keep HE3.out hbn); clear HE3; have HE3 := HE3_; clear HE3_
  have hbw_ := hbw.trans (hbn.mono hbw.size); clear hbw hbn; have hbw := hbw_; clear hbw_
  try simp only [Act.put]
  clear HS3 HL3 hnil3
  have h0 := specFinish_any d ad capd xs sd scapd ls w4 HD.out.sh HD.out.lv (by omega) hms (by omega) HD.out.nil
  rw [HO.out] at h0
  have H0 := Lib.hid h0; clear h0
  go_wp2_with (first | ((with_reducible show wpList _ _ _ (⟨_, Op.load 40 _, _, _, _, _⟩ :: _) _ _); refine wlm BD (Dc.cl d (.slice ad xs.length capd) (.slice sd ls.length scapd)) (range_of_box (t := 40) HD.out.box) ?_))
  refine H0.out.mono ?_
  clear H0 HO
  rintro r w5 ⟨a5, cap5, rs5, sa5, scap5, ea5, ecap5, rfl, hs_, hl_, he_, hb_⟩
  have HD_ := Lib.hid (HD.out.keep hb_); clear HD; have HD := HD_; clear HD_
  have HX_ := Lib.hid (HX.out.keep hb_); clear HX; have HX := HX_; clear HX_
  have HE3_ := Lib.hid (Sl.keep HE3.out hb_); clear HE3; have HE3 := HE3_; clear HE3_
  have hbw_ := hbw.trans (hb_.mono hbw.size); clear hbw; have hbw := hbw_; clear hbw_
  have hnil5 := own_nilc2 hl_
  have HS5 := Lib.hid hs_.shsC; have HL5 := Lib.hid (lvls_of_own hl_ rfl); have HE5 := Lib.hid (evs_of_own he_ rfl); clear hs_ hl_ he_ hb_
  go_upto_region 6 with (first | ((with_reducible show wpList _ _ _ (⟨_, Op.store 40 _ _, _, _, _, _⟩ :: _) _ _); refine wsq w5.heap.size (Dc.cl e (.slice a5 xs.length cap5) (.slice sa5 ms.length scap5)).toArray (hset_new rfl) (one_Dec _ _ _ _ _ _ _) ?_))
  have hbn : Below w5.heap.size w5 ((w5.alloc (.cells dz0.toArray 40)).setRow w5.heap.size (Dc.cl e (.slice a5 xs.length cap5) (.slice sa5 ms.length scap5)).toArray) := by exact bl
  have hnew := Hd.new (w := w5) (d := e) (cap := cap5) (scap := scap5) HS5.out HL5.out (fun e => (hnil5 e).2)
  obtain ⟨w6, hw_⟩ : ∃ q, ((w5.alloc (.cells dz0.toArray 40)).setRow w5.heap.size (Dc.cl e (.slice a5 xs.length cap5) (.slice sa5 ms.length scap5)).toArray) = q := ⟨_, rfl⟩
  rw [hw_] at hbn hnew ⊢
  clear hw_
  obtain ⟨BY, hB_⟩ : ∃ q, w5.heap.size = q := ⟨_, rfl⟩
  rw [hB_] at hnew
  try simp only [hB_]
  clear hB_
  have HY := Lib.hid hnew; clear hnew
  have HD_ := Lib.hid (HD.out.keep hbn); clear HD; have HD := HD_; clear HD_
  have HX_ := Lib.hid (HX.out.keep hbn); clear HX; have HX := HX_; clear HX_
  have HE3_ := Lib.hid (Sl.keep HE3.out hbn); clear HE3; have HE3 := HE3_; clear HE3_
  have HE5_ := Lib.hid (Sl.keep HE5.out hbn); clear HE5; have HE5 := HE5_; clear HE5_
  have hbw_ := hbw.trans (hbn.mono hbw.size); clear hbw hbn; have hbw := hbw_; clear hbw_
  try simp only [Act.put]
  clear HS5 HL5 hnil5
  obtain ⟨wd, hwd⟩ : ∃ q, w6.drew = q := ⟨_, rfl⟩
  have hbd : Below w6.heap.size w6 wd := by rw [← hwd]; exact (Below.refl _ _).drew
  have HD_ := Lib.hid (HD.out.keep hbd); clear HD; have HD := HD_; clear HD_
  have HX_ := Lib.hid (HX.out.keep hbd); clear HX; have HX := HX_; clear HX_
  have HY_ := Lib.hid (HY.out.keep hbd); clear HY; have HY := HY_; clear HY_
  have HE3_ := Lib.hid (Sl.keep HE3.out hbd); clear HE3; have HE3 := HE3_; clear HE3_
  have HE5_ := Lib.hid (Sl.keep HE5.out hbd); clear HE5; have HE5 := HE5_; clear HE5_
  have hbw_ := hbw.trans (hbd.mono hbw.size); clear hbw; have hbw := hbw_; clear hbw_
  refine wp_region_till (fun w' : World => (∀ i : Nat, w'.cell? ⟨BX, i, none⟩ = ((Dc.cl e (.slice a3 xs.length cap3) (.slice sa3 ms.length scap3)).toArray : Array Value)[i]?) ∧ (∀ i : Nat, w'.cell? ⟨BY, i, none⟩ = ((Dc.cl e (.slice a5 xs.length cap5) (.slice sa5 ms.length scap5)).toArray : Array Value)[i]?) ∧ (∀ i : Nat, w'.cell? ⟨BD, i, none⟩ = ((Dc.cl d (.slice ad xs.length capd) (.slice sd ls.length scapd)).toArray : Array Value)[i]?)) (fun _ => false) (by kernel_rfl) ?_
  rw [hwd]
  clear hwd hbd
  have hS : (fun w' : World => (∀ i : Nat, w'.cell? ⟨BX, i, none⟩ = ((Dc.cl e (.slice a3 xs.length cap3) (.slice sa3 ms.length scap3)).toArray : Array Value)[i]?) ∧ (∀ i : Nat, w'.cell? ⟨BY, i, none⟩ = ((Dc.cl e (.slice a5 xs.length cap5) (.slice sa5 ms.length scap5)).toArray : Array Value)[i]?) ∧ (∀ i : Nat, w'.cell? ⟨BD, i, none⟩ = ((Dc.cl d (.slice ad xs.length capd) (.slice sd ls.length scapd)).toArray : Array Value)[i]?)) wd := ⟨box_cells HX.out.box, box_cells HY.out.box, box_cells HD.out.box⟩
  refine' wpTill_take (i := 0) (oi := _) (v := _) rfl (by kernel_rfl) (by kernel_rfl) (by kernel_rfl) (by kernel_rfl) (fun _ _ _ h => h) (yieldsIf_load_mid (by rfl) _ _ rfl _ _ rfl (Dc.cl e (.slice a3 xs.length cap3) (.slice sa3 ms.length scap3)) _ (fun wq hq => range_of_cells hq.1) Tryz.underlying40 rfl size_Dec) hS ?_
  try simp only [List.getElem_toArray, List.getElem_cons_succ, List.getElem_cons_zero, Act.put, List.setIfInBounds_toArray, List.set_cons_zero, List.set_cons_succ]
  refine' wpTill_take (i := 1) (oi := _) (v := _) rfl (by kernel_rfl) (by kernel_rfl) (by kernel_rfl) (by kernel_rfl) (fun _ _ _ h => h) (yieldsIf_load_mid (by rfl) _ _ rfl _ _ rfl (Dc.cl e (.slice a5 xs.length cap5) (.slice sa5 ms.length scap5)) _ (fun wq hq => range_of_cells hq.2.1) Tryz.underlying40 rfl size_Dec) hS ?_
  try simp only [List.getElem_toArray, List.getElem_cons_succ, List.getElem_cons_zero, Act.put, List.setIfInBounds_toArray, List.set_cons_zero, List.set_cons_succ]
  refine wpTill_op (i := 2) (by kernel_rfl) rfl (fun K hK => ?_)
  go_simp
  refine (specSameDec_any e a3 cap3 _ xs sa3 scap3 _ ms e a5 cap5 _ xs sa5 scap5 _ ms _ HX.out.sh.shs HX.out.lv rfl rfl (by omega) hms (by omega) HY.out.sh.shs HY.out.lv rfl rfl (by omega) hms (by omega)).mono ?_
  rintro r w7 ⟨rfl, hb_⟩
  rw [sameDec_self]
  have HD_ := Lib.hid (HD.out.keep hb_); clear HD; have HD := HD_; clear HD_
  have HX_ := Lib.hid (HX.out.keep hb_); clear HX; have HX := HX_; clear HX_
  have HY_ := Lib.hid (HY.out.keep hb_); clear HY; have HY := HY_; clear HY_
  have HE3_ := Lib.hid (Sl.keep HE3.out hb_); clear HE3; have HE3 := HE3_; clear HE3_
  have HE5_ := Lib.hid (Sl.keep HE5.out hb_); clear HE5; have HE5 := HE5_; clear HE5_
  have hbw_ := hbw.trans (hb_.mono hbw.size); clear hbw; have hbw := hbw_; clear hbw_
  clear hb_ hS
  have hS : (fun w' : World => (∀ i : Nat, w'.cell? ⟨BX, i, none⟩ = ((Dc.cl e (.slice a3 xs.length cap3) (.slice sa3 ms.length scap3)).toArray : Array Value)[i]?) ∧ (∀ i : Nat, w'.cell? ⟨BY, i, none⟩ = ((Dc.cl e (.slice a5 xs.length cap5) (.slice sa5 ms.length scap5)).toArray : Array Value)[i]?) ∧ (∀ i : Nat, w'.cell? ⟨BD, i, none⟩ = ((Dc.cl d (.slice ad xs.length capd) (.slice sd ls.length scapd)).toArray : Array Value)[i]?)) w7 := ⟨box_cells HX.out.box, box_cells HY.out.box, box_cells HD.out.box⟩
  refine hK.out _ _ (fun _ => hS) ?_
  clear hK K
  try simp only [List.getElem_toArray, List.getElem_cons_succ, List.getElem_cons_zero, Act.put, List.setIfInBounds_toArray, List.set_cons_zero, List.set_cons_succ]
  refine tk (i := 3) hS ?_
  refine tk (i := 4) hS ?_
  refine tk (i := 5) hS ?_
  refine tk (i := 6) hS ?_
  refine wpTill_op (i := 7) (by kernel_rfl) rfl (fun K hK => ?_)
  go_simp
  refine (specSameEvents_any ea3 ea5 ecap3 ecap5 _ _ es es _ HE3.out HE5.out rfl rfl (by omega) (by omega)).mono ?_
  rintro r w8 ⟨rfl, hb_⟩
  rw [show decide (es = es) = true by simp]
  have HD_ := Lib.hid (HD.out.keep hb_); clear HD; have HD := HD_; clear HD_
  have HX_ := Lib.hid (HX.out.keep hb_); clear HX; have HX := HX_; clear HX_
  have HY_ := Lib.hid (HY.out.keep hb_); clear HY; have HY := HY_; clear HY_
  have HE3_ := Lib.hid (Sl.keep HE3.out hb_); clear HE3; have HE3 := HE3_; clear HE3_
  have HE5_ := Lib.hid (Sl.keep HE5.out hb_); clear HE5; have HE5 := HE5_; clear HE5_
  have hbw_ := hbw.trans (hb_.mono hbw.size); clear hbw; have hbw := hbw_; clear hbw_
  clear hb_ hS
  have hS : (fun w' : World => (∀ i : Nat, w'.cell? ⟨BX, i, none⟩ = ((Dc.cl e (.slice a3 xs.length cap3) (.slice sa3 ms.length scap3)).toArray : Array Value)[i]?) ∧ (∀ i : Nat, w'.cell? ⟨BY, i, none⟩ = ((Dc.cl e (.slice a5 xs.length cap5) (.slice sa5 ms.length scap5)).toArray : Array Value)[i]?) ∧ (∀ i : Nat, w'.cell? ⟨BD, i, none⟩ = ((Dc.cl d (.slice ad xs.length capd) (.slice sd ls.length scapd)).toArray : Array Value)[i]?)) w8 := ⟨box_cells HX.out.box, box_cells HY.out.box, box_cells HD.out.box⟩
  refine hK.out _ _ (fun _ => hS) ?_
  clear hK K
  try simp only [List.getElem_toArray, List.getElem_cons_succ, List.getElem_cons_zero, Act.put, List.setIfInBounds_toArray, List.set_cons_zero, List.set_cons_succ]
  refine tk (i := 8) hS ?_
  refine tk (i := 9) hS ?_
  refine tk (i := 10) hS ?_
  refine' wpTill_take (i := 11) (oi := _) (v := _) rfl (by kernel_rfl) (by kernel_rfl) (by kernel_rfl) (by kernel_rfl) (fun _ _ _ h => h) (yieldsIf_load_mid (by rfl) _ _ rfl _ _ rfl (Dc.cl d (.slice ad xs.length capd) (.slice sd ls.length scapd)) _ (fun wq hq => range_of_cells hq.2.2) Tryz.underlying40 rfl size_Dec) hS ?_
  try simp only [List.getElem_toArray, List.getElem_cons_succ, List.getElem_cons_zero, Act.put, List.setIfInBounds_toArray, List.set_cons_zero, List.set_cons_succ]
  refine' wpTill_take (i := 13) (oi := _) (v := _) rfl (by kernel_rfl) (by kernel_rfl) (by kernel_rfl) (by kernel_rfl) (fun _ _ _ h => h) (yieldsIf_load_mid (by rfl) _ _ rfl _ _ rfl (Dc.cl d (.slice ad xs.length capd) (.slice sd ls.length scapd)) _ (fun wq hq => range_of_cells hq.2.2) Tryz.underlying40 rfl size_Dec) hS ?_
  try simp only [List.getElem_toArray, List.getElem_cons_succ, List.getElem_cons_zero, Act.put, List.setIfInBounds_toArray, List.set_cons_zero, List.set_cons_succ]
  refine wpTill_op (i := 12) (by kernel_rfl) rfl (fun K hK => ?_)
  go_simp
  refine (implAtBoundary_any d ad capd _ xs sd scapd _ ls _ HD.out.sh.shs HD.out.lv rfl rfl (by omega) hms (by omega)).mono ?_
  rintro r w9 ⟨rfl, hb_⟩
  obtain ⟨atb, hatb⟩ : ∃ q, atBoundary d xs ls = q := ⟨_, rfl⟩
  have HAT := Lib.hid hatb
  rw [hatb]
  clear hatb
  have HD_ := Lib.hid (HD.out.keep hb_); clear HD; have HD := HD_; clear HD_
  have HX_ := Lib.hid (HX.out.keep hb_); clear HX; have HX := HX_; clear HX_
  have HY_ := Lib.hid (HY.out.keep hb_); clear HY; have HY := HY_; clear HY_
  have HE3_ := Lib.hid (Sl.keep HE3.out hb_); clear HE3; have HE3 := HE3_; clear HE3_
  have HE5_ := Lib.hid (Sl.keep HE5.out hb_); clear HE5; have HE5 := HE5_; clear HE5_
  have hbw_ := hbw.trans (hb_.mono hbw.size); clear hbw; have hbw := hbw_; clear hbw_
  clear hb_ hS
  have hS : (fun w' : World => (∀ i : Nat, w'.cell? ⟨BX, i, none⟩ = ((Dc.cl e (.slice a3 xs.length cap3) (.slice sa3 ms.length scap3)).toArray : Array Value)[i]?) ∧ (∀ i : Nat, w'.cell? ⟨BY, i, none⟩ = ((Dc.cl e (.slice a5 xs.length cap5) (.slice sa5 ms.length scap5)).toArray : Array Value)[i]?) ∧ (∀ i : Nat, w'.cell? ⟨BD, i, none⟩ = ((Dc.cl d (.slice ad xs.length capd) (.slice sd ls.length scapd)).toArray : Array Value)[i]?)) w9 := ⟨box_cells HX.out.box, box_cells HY.out.box, box_cells HD.out.box⟩
  refine hK.out _ _ (fun _ => hS) ?_
  clear hK K
  try simp only [List.getElem_toArray, List.getElem_cons_succ, List.getElem_cons_zero, Act.put, List.setIfInBounds_toArray, List.set_cons_zero, List.set_cons_succ]
  refine wpTill_op (i := 14) (by kernel_rfl) rfl (fun K hK => ?_)
  go_simp
  refine (specAtBoundary_any d ad capd _ xs sd scapd _ ls _ HD.out.sh.shs HD.out.lv rfl rfl (by omega) hms (by omega)).mono ?_
  rintro r w10 ⟨rfl, hb_⟩
  rw [HAT.out]
  have HD_ := Lib.hid (HD.out.keep hb_); clear HD; have HD := HD_; clear HD_
  have HX_ := Lib.hid (HX.out.keep hb_); clear HX; have HX := HX_; clear HX_
  have HY_ := Lib.hid (HY.out.keep hb_); clear HY; have HY := HY_; clear HY_
  have HE3_ := Lib.hid (Sl.keep HE3.out hb_); clear HE3; have HE3 := HE3_; clear HE3_
  have HE5_ := Lib.hid (Sl.keep HE5.out hb_); clear HE5; have HE5 := HE5_; clear HE5_
  have hbw_ := hbw.trans (hb_.mono hbw.size); clear hbw; have hbw := hbw_; clear hbw_
  clear hb_ hS
  have hS : (fun w' : World => (∀ i : Nat, w'.cell? ⟨BX, i, none⟩ = ((Dc.cl e (.slice a3 xs.length cap3) (.slice sa3 ms.length scap3)).toArray : Array Value)[i]?) ∧ (∀ i : Nat, w'.cell? ⟨BY, i, none⟩ = ((Dc.cl e (.slice a5 xs.length cap5) (.slice sa5 ms.length scap5)).toArray : Array Value)[i]?) ∧ (∀ i : Nat, w'.cell? ⟨BD, i, none⟩ = ((Dc.cl d (.slice ad xs.length capd) (.slice sd ls.length scapd)).toArray : Array Value)[i]?)) w10 := ⟨box_cells HX.out.box, box_cells HY.out.box, box_cells HD.out.box⟩
  refine hK.out _ _ (fun _ => hS) ?_
  clear hK K
  try simp only [List.getElem_toArray, List.getElem_cons_succ, List.getElem_cons_zero, Act.put, List.setIfInBounds_toArray, List.set_cons_zero, List.set_cons_succ]
  have hne : (atb != atb) = false := by simp
  refine tk (i := 15) hS ?_
  refine tk (i := 16) hS ?_
  refine wpTill_done (by kernel_rfl) ?_ _
  try simp only [List.getElem_toArray, List.getElem_cons_succ, List.getElem_cons_zero, Act.put, List.setIfInBounds_toArray, List.set_cons_zero, List.set_cons_succ]
  clear HY HE5 hS hne
  rcases HC.out with ⟨he, hdm⟩ | ⟨ev, rfl, hmode, hdok, hkind, hat⟩
  ·clear HC
   simp only [Prod.mk.injEq] at he
   obtain ⟨rfl, rfl, rfl⟩ := he
   have HDM := Lib.hid hdm; clear hdm
   go_wp2_with (first | ((with_reducible show wpList _ _ _ (⟨_, Op.load 40 _, _, _, _, _⟩ :: _) _ _); refine wlm BX (Dc.cl e (.slice a3 xs.length cap3) (.slice sa3 ms.length scap3)) (range_of_box (t := 40) HX.out.box) ?_) | ((with_reducible show wpList _ _ _ (⟨_, Op.load 40 _, _, _, _, _⟩ :: _) _ _); refine wlm BD (Dc.cl e (.slice ad xs.length capd) (.slice sd ms.length scapd)) (range_of_box (t := 40) HD.out.box) ?_))
   refine (specSameDec_any e a3 cap3 _ xs sa3 scap3 _ ms e ad capd _ xs sd scapd _ ms _ HX.out.sh.shs HX.out.lv rfl rfl (by omega) hms (by omega) HD.out.sh.shs HD.out.lv rfl rfl (by omega) hms (by omega)).mono ?_
   rintro r w11 ⟨rfl, hb_⟩
   rw [sameDec_self]
   have HD_ := Lib.hid (HD.out.keep hb_); clear HD; have HD := HD_; clear HD_
   have hbw_ := hbw.trans (hb_.mono hbw.size); clear hbw; have hbw := hbw_; clear hbw_
   clear hb_
   go_wp2_with (first | ((with_reducible show wpList _ _ _ (⟨_, Op.load 40 _, _, _, _, _⟩ :: _) _ _); refine wlw BD (Dc.cl e (.slice ad xs.length capd) (.slice sd ms.length scapd)) (range_of_box (t := 40) HD.out.box) ?_))
   refine (specDecOkL_any e ad capd _ xs sd scapd _ ms _ HD.out.sh.shs HD.out.lv rfl rfl (by omega) hms (by omega)).mono ?_
   rintro r w12 ⟨rfl, hb_⟩
   have HD_ := Lib.hid (HD.out.keep hb_); clear HD; have HD := HD_; clear HD_
   have hbw_ := hbw.trans (hb_.mono hbw.size); clear hbw; have hbw := hbw_; clear hbw_
   clear hb_
   have kD := box_cells HD.out.box; have fD := box_frozen HD.out.box; have hBD := box_lt HD.out.box
   cases hdk : decOk e xs ms
   ·go_wp2
    go_ret
    exact ⟨rfl, hbw⟩
   ·have m9 : (e.mode == 9) = true := by rcases HDM.out with h | h; exact absurd h (by rw [hdk]; simp); simp [h]
    go_wp2
    go_ret
    exact ⟨rfl, hbw⟩
  ·clear HC
   have HFN := Lib.hid (finO_nine (xs := xs) (ls := ms) hmode)
   have HDK := Lib.hid hdok; have HKD := Lib.hid hkind; have HATE := Lib.hid hat; clear hmode hdok hkind hat
   have h0 := implFinish_any e a3 cap3 xs sa3 scap3 ms w10 HX.out.sh HX.out.lv (by omega) hms (by omega) HX.out.nil
   rw [HFN.out] at h0
   have H0 := Lib.hid h0; clear h0
   go_wp2_with (first | ((with_reducible show wpList _ _ _ (⟨_, Op.load 40 _, _, _, _, _⟩ :: _) _ _); refine wlm BX (Dc.cl e (.slice a3 xs.length cap3) (.slice sa3 ms.length scap3)) (range_of_box (t := 40) HX.out.box) ?_))
   refine H0.out.mono ?_
   clear H0 HFN
   rintro r w11 ⟨a9, cap9, rs9, sa9, scap9, ea9, ecap9, rfl, hs_, hl_, he_, hb_⟩
   have HD_ := Lib.hid (HD.out.keep hb_); clear HD; have HD := HD_; clear HD_
   have HX_ := Lib.hid (HX.out.keep hb_); clear HX; have HX := HX_; clear HX_
   have HE3_ := Lib.hid (Sl.keep HE3.out hb_); clear HE3; have HE3 := HE3_; clear HE3_
   have hbw_ := hbw.trans (hb_.mono hbw.size); clear hbw; have hbw := hbw_; clear hbw_
   have hnil9 := own_nilc2 hl_
   have HS9 := Lib.hid hs_.shsC; have HL9 := Lib.hid (lvls_of_own hl_ rfl); have HE9 := Lib.hid (evs_of_own he_ rfl); clear hs_ hl_ he_ hb_
   go_upto_region 11 with (first | ((with_reducible show wpList _ _ _ (⟨_, Op.store 40 _ _, _, _, _, _⟩ :: _) _ _); refine wsq w11.heap.size (Dc.cl e (.slice a9 xs.length cap9) (.slice sa9 ms.length scap9)).toArray (hset_new rfl) (one_Dec _ _ _ _ _ _ _) ?_))
   have hbn : Below w11.heap.size w11 ((w11.alloc (.cells dz0.toArray 40)).setRow w11.heap.size (Dc.cl e (.slice a9 xs.length cap9) (.slice sa9 ms.length scap9)).toArray) := by exact bl
   have hnew := Hd.new (w := w11) (d := e) (cap := cap9) (scap := scap9) HS9.out HL9.out (fun e => (hnil9 e).2)
   obtain ⟨w12, hw_⟩ : ∃ q, ((w11.alloc (.cells dz0.toArray 40)).setRow w11.heap.size (Dc.cl e (.slice a9 xs.length cap9) (.slice sa9 ms.length scap9)).toArray) = q := ⟨_, rfl⟩
   rw [hw_] at hbn hnew ⊢
   clear hw_
   obtain ⟨BZ, hB_⟩ : ∃ q, w11.heap.size = q := ⟨_, rfl⟩
   rw [hB_] at hnew
   try simp only [hB_]
   clear hB_
   have HZ := Lib.hid hnew; clear hnew
   have HD_ := Lib.hid (HD.out.keep hbn); clear HD; have HD := HD_; clear HD_
   have HX_ := Lib.hid (HX.out.keep hbn); clear HX; have HX := HX_; clear HX_
   have HE3_ := Lib.hid (Sl.keep HE3.out hbn); clear HE3; have HE3 := HE3_; clear HE3_
   have hbw_ := hbw.trans (hbn.mono hbw.size); clear hbw hbn; have hbw := hbw_; clear hbw_
   try simp only [Act.put]
   clear HS9 HL9 hnil9 HE9 HZ
   obtain ⟨wd, hwd⟩ : ∃ q, w12.drew = q := ⟨_, rfl⟩
   have hbd : Below w12.heap.size w12 wd := by rw [← hwd]; exact (Below.refl _ _).drew
   have HD_ := Lib.hid (HD.out.keep hbd); clear HD; have HD := HD_; clear HD_
   have HX_ := Lib.hid (HX.out.keep hbd); clear HX; have HX := HX_; clear HX_
   have HE3_ := Lib.hid (Sl.keep HE3.out hbd); clear HE3; have HE3 := HE3_; clear HE3_
   have hbw_ := hbw.trans (hbd.mono hbw.size); clear hbw; have hbw := hbw_; clear hbw_
   obtain ⟨ek, ef, eb, el, et, ec, eat⟩ := ev
   obtain ⟨b, off, rfl, hlb, c0, c1, c2, c3, c4, c5, c6⟩ := Evs.at (k := 0) HE3.out rfl
   simp only [Nat.zero_mul, Nat.add_zero] at c0 c6
   clear c1 c2 c3 c4 c5
   refine wp_region_till (fun w' : World => (∀ i : Nat, w'.cell? ⟨BX, i, none⟩ = ((Dc.cl e (.slice a3 xs.length cap3) (.slice sa3 ms.length scap3)).toArray : Array Value)[i]?) ∧ (∀ i : Nat, w'.cell? ⟨BD, i, none⟩ = ((Dc.cl d (.slice ad xs.length capd) (.slice sd ls.length scapd)).toArray : Array Value)[i]?) ∧ Cells [(⟨b, off, none⟩, .int .i64 ek), (⟨b, off + 6, none⟩, .int .i64 eat)] w') (fun _ => false) (by kernel_rfl) ?_
   rw [hwd]
   clear hwd hbd
   have hS : (fun w' : World => (∀ i : Nat, w'.cell? ⟨BX, i, none⟩ = ((Dc.cl e (.slice a3 xs.length cap3) (.slice sa3 ms.length scap3)).toArray : Array Value)[i]?) ∧ (∀ i : Nat, w'.cell? ⟨BD, i, none⟩ = ((Dc.cl d (.slice ad xs.length capd) (.slice sd ls.length scapd)).toArray : Array Value)[i]?) ∧ Cells [(⟨b, off, none⟩, .int .i64 ek), (⟨b, off + 6, none⟩, .int .i64 eat)] w') wd := ⟨box_cells HX.out.box, box_cells HD.out.box, cells_mk c0 (cells_mk c6 (cells_no _))⟩
   clear c0 c6
   refine tk (i := 0) hS ?_
   refine tk (i := 1) hS ?_
   refine tk (i := 2) hS ?_
   refine tk (i := 3) hS ?_
   refine' wpTill_take (i := 4) (oi := _) (v := _) rfl (by kernel_rfl) (by kernel_rfl) (by kernel_rfl) (by kernel_rfl) (fun _ _ _ h => h) (yieldsIf_load_mid (by rfl) _ _ rfl _ _ rfl (Dc.cl e (.slice a3 xs.length cap3) (.slice sa3 ms.length scap3)) _ (fun wq hq => range_of_cells hq.1) Tryz.underlying40 rfl size_Dec) hS ?_
   try simp only [List.getElem_toArray, List.getElem_cons_succ, List.getElem_cons_zero, Act.put, List.setIfInBounds_toArray, List.set_cons_zero, List.set_cons_succ]
   refine wpTill_op (i := 5) (by kernel_rfl) rfl (fun K hK => ?_)
   go_simp
   refine (specDecOkL_any e a3 cap3 _ xs sa3 scap3 _ ms _ HX.out.sh.shs HX.out.lv rfl rfl (by omega) hms (by omega)).mono ?_
   rintro r w13 ⟨rfl, hb_⟩
   rw [HDK.out]
   have hc := hS.2.2.below hb_
   have HD_ := Lib.hid (HD.out.keep hb_); clear HD; have HD := HD_; clear HD_
   have HX_ := Lib.hid (HX.out.keep hb_); clear HX; have HX := HX_; clear HX_
   have hbw_ := hbw.trans (hb_.mono hbw.size); clear hbw; have hbw := hbw_; clear hbw_
   clear hb_ hS
   have hS : (fun w' : World => (∀ i : Nat, w'.cell? ⟨BX, i, none⟩ = ((Dc.cl e (.slice a3 xs.length cap3) (.slice sa3 ms.length scap3)).toArray : Array Value)[i]?) ∧ (∀ i : Nat, w'.cell? ⟨BD, i, none⟩ = ((Dc.cl d (.slice ad xs.length capd) (.slice sd ls.length scapd)).toArray : Array Value)[i]?) ∧ Cells [(⟨b, off, none⟩, .int .i64 ek), (⟨b, off + 6, none⟩, .int .i64 eat)] w') w13 := ⟨box_cells HX.out.box, box_cells HD.out.box, hc⟩
   clear hc
   refine hK.out _ _ (fun _ => hS) ?_
   clear hK K
   try simp only [List.getElem_toArray, List.getElem_cons_succ, List.getElem_cons_zero, Act.put, List.setIfInBounds_toArray, List.set_cons_zero, List.set_cons_succ]
   refine tk (i := 6) hS ?_
   refine tk (i := 7) hS ?_
   refine tk (i := 8) hS ?_
   refine tk (i := 9) hS ?_
   refine tk (i := 10) hS ?_
   refine tk (i := 11) hS ?_
   refine tk (i := 12) hS ?_
   refine' wpTill_take (i := 13) (oi := _) (v := _) rfl (by kernel_rfl) (by kernel_rfl) (by kernel_rfl) (by kernel_rfl) (fun _ _ _ h => h) (yieldsIf_load_mid (by rfl) _ _ rfl _ _ rfl (Dc.cl d (.slice ad xs.length capd) (.slice sd ls.length scapd)) _ (fun wq hq => range_of_cells hq.2.1) Tryz.underlying40 rfl size_Dec) hS ?_
   try simp only [List.getElem_toArray, List.getElem_cons_succ, List.getElem_cons_zero, Act.put, List.setIfInBounds_toArray, List.set_cons_zero, List.set_cons_succ]
   refine wpTill_op (i := 14) (by kernel_rfl) rfl (fun K hK => ?_)
   go_simp
   refine (specAtBoundary_any d ad capd _ xs sd scapd _ ls _ HD.out.sh.shs HD.out.lv rfl rfl (by omega) hms (by omega)).mono ?_
   rintro r w14 ⟨rfl, hb_⟩
   have hc := hS.2.2.below hb_
   have HD_ := Lib.hid (HD.out.keep hb_); clear HD; have HD := HD_; clear HD_
   have HX_ := Lib.hid (HX.out.keep hb_); clear HX; have HX := HX_; clear HX_
   have hbw_ := hbw.trans (hb_.mono hbw.size); clear hbw; have hbw := hbw_; clear hbw_
   clear hb_ hS
   have hS : (fun w' : World => (∀ i : Nat, w'.cell? ⟨BX, i, none⟩ = ((Dc.cl e (.slice a3 xs.length cap3) (.slice sa3 ms.length scap3)).toArray : Array Value)[i]?) ∧ (∀ i : Nat, w'.cell? ⟨BD, i, none⟩ = ((Dc.cl d (.slice ad xs.length capd) (.slice sd ls.length scapd)).toArray : Array Value)[i]?) ∧ Cells [(⟨b, off, none⟩, .int .i64 ek), (⟨b, off + 6, none⟩, .int .i64 eat)] w') w14 := ⟨box_cells HX.out.box, box_cells HD.out.box, hc⟩
   clear hc
   refine hK.out _ _ (fun _ => hS) ?_
   clear hK K
   try simp only [List.getElem_toArray, List.getElem_cons_succ, List.getElem_cons_zero, Act.put, List.setIfInBounds_toArray, List.set_cons_zero, List.set_cons_succ]
   have hkk : ((ek == 9) == atBoundary d xs ls) = true := by rw [show (ek == 9) = atBoundary d xs ls from HKD.out]; simp
   have hte : (eat == d.at_) = true := by rw [show eat = d.at_ from HATE.out]; simp
   refine tk (i := 15) hS ?_
   refine tk (i := 16) hS ?_
   refine tk (i := 17) hS ?_
   refine tk (i := 18) hS ?_
   refine tk (i := 19) hS ?_
   refine tk (i := 20) hS ?_
   refine tk (i := 21) hS ?_
   refine tk (i := 22) hS ?_
   refine tk (i := 23) hS ?_
   refine tk (i := 24) hS ?_
   refine tk (i := 25) hS ?_
   refine wpTill_op (i := 26) (by kernel_rfl) rfl (fun K hK => ?_)
   go_simp
   refine hK.out _ _ (fun _ => hS) ?_
   clear hK K
   refine wpTill_done (by kernel_rfl) ?_ _
   go_wp2
   go_ret
   exact ⟨rfl, hbw⟩
set_option maxRecDepth 100000 in
theorem lifted (os : Os) (started : os.Started) (H : Type) (enc : TypeId × Value → H) :
  ReturnsInHanded {} Tryz.checked os 7 .any (Rows.fnFinishSpec.pre6 enc Tryz.prog Tryz.f7 Rows.fnFinishRow.domain false) (Rows.fnFinishSpec.post enc Tryz.prog Tryz.f7 false true false false) := by
 refine returnsInHanded_of_change (C := Tryz.checked) own started (by kernel_rfl) Tryz.func7
  (ChangeSpec.witness6 (enc := enc) (C := Tryz.checked) false ⟨#[], #[.slice none 0 0], []⟩ 8 (by kernel_rfl) (by kernel_rfl) (by kernel_rfl) (by kernel_rfl)) ?_
 intro W base args ds gs before hval0 hW hcnd _
 have hval : ∀ (j : Nat) t v, Tryz.f7.params[j]? = some t → args[j]? = some v → Value.okWide Tryz.prog W .any base t v := hval0
 have hW' := hW
 obtain ⟨p, q, hA0, hV, rfl, hfz, hnd⟩ := hW
 have hA : DataW.TrodAll enc Tryz.prog W 0 (fun _ => true) true Tryz.f7.params.toList args.toList ds p := hA0
 rw [Tryz.params7] at hA hval
 obtain ⟨v0, vs0, d0, ds0, p0, q0, hargs, rfl, rfl, h0, r0⟩ := trodAll_cons hA
 obtain ⟨rfl, rfl, rfl⟩ := trodAll_nil r0
 obtain rfl : args = #[v0] := by cases args; simp_all
 obtain ⟨rfl, rfl⟩ := trodVars_none hV
 have k0 := h0
 have lt0 : ∀ x ∈ p0, x.block < W.heap.size := by obtain ⟨m, hm⟩ := k0; exact DataW.trod_lt m _ _ _ hm
 obtain ⟨x0, e0, w0⟩ := openBytes (hval 0 22 v0 rfl rfl) h0
 subst e0
 clear hA0 hval0
 refine (walk W x0 w0).mono fun e W' ⟨he, bel⟩ => ?_
 subst he
 exact ⟨_, rfl, _, _, _, [], _, [], hW', trodAll_mk1 (shut_bool Tryz.underlying4 _), (trodAll_cons_mk (Below.trod laidOut (by kernel_rfl) (of_decide_eq_true (by kernel_rfl)) k0 bel lt0) trodAll_mk0), rfl, bel.frame _, fun h => by cases h⟩
theorem over : Rows.fnFinishRow.holds Tryz.pinned (OpenSpec.ofChange Rows.fnFinishSpec) :=
 OpenClaim.holds_of_wide 7 Tryz.f7 rfl rfl rfl rfl rfl rfl rfl ⟨rfl, rfl, rfl, rfl, rfl⟩ rfl rfl rfl rfl rfl (by kernel_rfl) Tryz.func7 (by kernel_rfl)
  (of_decide_eq_true (by kernel_rfl)) (by unfold Func.isWrapper; first | (rw [if_pos (by decide +kernel)]; kernel_rfl) | (rw [if_neg (by decide +kernel)]; exact ⟨rfl, rfl⟩))
  (fun os started H enc _ => lifted os started H enc)
theorem proved : Rows.FnFinishSaid := over
end Go.Proofs.YtabdjimjelfbfaaGreat.fnFinish

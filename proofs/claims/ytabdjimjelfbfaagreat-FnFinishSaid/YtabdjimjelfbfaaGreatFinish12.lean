/- Texts that FnFinish leans on, part 12. (Put together by wip/tools/bundle.py.) -/
import Derived.Test.YtabdjimjelfbfaaGreatFinish1
import Derived.Test.YtabdjimjelfbfaaGreatFinish2
import Derived.Test.YtabdjimjelfbfaaGreatFinish3
import Derived.Test.YtabdjimjelfbfaaGreatFinish10
import Derived.Test.YtabdjimjelfbfaaGreatFinish11
namespace Go.Proofs.YtabdjimjelfbfaaGreat
set_option linter.unusedSimpArgs false
set_option linter.unusedVariables false
open Go.ChangeShapes Go.WideShapes Go.ChangeAt Go.RowKit Go.BigFrame
set_option maxRecDepth 100000 in
set_option maxHeartbeats 2000000 in
theorem knownField_any (p : Pl) (a : Option Addr) (cap n : Nat) (xs : List Shp) (f : Fld) (w : World) (h : Shs w a xs) (hx : xs.length = n) (hn : n ≤ 1048576) (hm : fldSum xs ≤ 1048576) :
  Calls Tryz.prog 102 #[p.val (.slice a n cap), f.val] w fun r w' => r = .returned (.bool (known f xs)) ∧ Below w.heap.size w w' := by
 have HX := Lib.hid hx; clear hx
 have HSs := Lib.hid h; clear h
 obtain ⟨fn, fk, fr, fp, fm⟩ := f
 have hne := run_eql_fld
 go_enter Tryz.func102, Tryz.ntmps102
 go_wp2_with fail
 go_loopw [12] (fun i wr => ∃ k : Nat, k ≤ n ∧ i = .int .i64 k ∧ Hid (∀ j : Nat, j < k → ¬ fieldAt xs j fn = (⟨fn, fk, fr, fp, fm⟩, true)) ∧ Below w.heap.size w wr ∧ w.heap.size + 1 < wr.heap.size ∧ (∀ i : Nat, wr.cell? ⟨w.heap.size, i, none⟩ = (#[.slice a n cap, .int .i64 p.root, .int .i64 p.deep, .int .i64 p.most] : Array Value)[i]?) ∧ (∀ i : Nat, wr.cell? ⟨w.heap.size + 1, i, none⟩ = (#[.int .i64 fn, .int .i64 fk, .bool fr, .bool fp, .int .i64 fm] : Array Value)[i]?)) (fun i _ => n - (intOf i).toNat)
 case atStart => exact ⟨0, Nat.zero_le _, rfl, Lib.hid (by omega), by exact bl, by simp, box_cells (heap_nth1 w _ _), box_cells (heap_new1 w _ _)⟩
 case round =>
  obtain ⟨k, hk, rfl, HK, hb, hBF, kP, kF⟩ := hrel
  have hBP : w.heap.size < wr.heap.size := by omega
  have hz := hb.size
  by_cases hlt : k < n
  ·obtain ⟨⟨g, ok⟩, hg⟩ : ∃ R, fieldAt xs k fn = R := ⟨_, rfl⟩
   go_wp2_with fail
   refine (implFieldAt_any a cap n xs k fn _ (HSs.out.keep bl) HX.out hn hm).mono ?_
   rintro r w1 ⟨rfl, hb1⟩
   have hz1 := hb1.size
   try simp only [World.size_alloc, World.size_setCell, World.size_drew] at hz1
   have hb1b : Below wr.heap.size wr w1 := by exact bl
   have kP_ := box_next hb1b hBP kP; clear kP
   have kP := kP_; clear kP_
   have hBP_ := Nat.lt_of_lt_of_le hBP hb1b.size; clear hBP; have hBP := hBP_; clear hBP_
   have kF_ := box_next hb1b hBF kF; clear kF
   have kF := kF_; clear kF_
   have hBF_ := Nat.lt_of_lt_of_le hBF hb1b.size; clear hBF; have hBF := hBF_; clear hBF_
   clear hb1; have hb1 := hb1b; clear hb1b
   rw [hg]
   have HG := Lib.hid hg; clear hg
   obtain ⟨gn, gk, gr, gp, gm⟩ := g
   cases ok
   ·have HK2 := Lib.hid (show ∀ j : Nat, j < k + 1 → ¬ fieldAt xs j fn = (⟨fn, fk, fr, fp, fm⟩, true) from fun j hj => by
     by_cases hjk : j < k
     ·exact HK.out j hjk
     ·obtain rfl : j = k := by omega
      rw [HG.out]; simp)
    go_wp2
    go_roundw
    case rel => exact ⟨k + 1, by omega, by go_num, HK2, by exact bl, by simp; omega, box_next (w := w1) bl hBP kP, box_next (w := w1) bl hBF kF⟩
    case measure => simp [intOf]; omega
   ·cases hs2 : sameF ⟨gn, gk, gr, gp, gm⟩ ⟨fn, fk, fr, fp, fm⟩
    ·have HK2 := Lib.hid (show ∀ j : Nat, j < k + 1 → ¬ fieldAt xs j fn = (⟨fn, fk, fr, fp, fm⟩, true) from fun j hj => by
      by_cases hjk : j < k
      ·exact HK.out j hjk
      ·obtain rfl : j = k := by omega
       rw [HG.out]; intro h; simp only [Prod.mk.injEq, and_true] at h; rw [h] at hs2; simp [sameF] at hs2)
     go_wp2
     go_roundw
     case rel => exact ⟨k + 1, by omega, by go_num, HK2, by exact bl, by simp; omega, box_next (w := w1) bl hBP kP, box_next (w := w1) bl hBF kF⟩
     case measure => simp [intOf]; omega
    ·have HR2 := Lib.hid (show known ⟨fn, fk, fr, fp, fm⟩ xs = true by
      refine known_yes (k := k) (by rw [HX.out]; exact hlt) ?_
      rw [HG.out]; simp only [sameF, decide_eq_true_eq] at hs2; rw [hs2])
     go_wp2
     go_ret
     exact ⟨ret_bool HR2.out.symm, by exact bl⟩
  ·have HR2 := Lib.hid (show known ⟨fn, fk, fr, fp, fm⟩ xs = false by
    exact known_no (fun j hj => HK.out j (by rw [HX.out] at hj; omega)))
   go_wp2
   go_ret
   exact ⟨ret_bool HR2.out.symm, by exact bl⟩
set_option maxRecDepth 100000 in
set_option maxHeartbeats 4000000 in
theorem implScanD_any (d : Dc) (a : Option Addr) (cap n : Nat) (xs : List Shp) (sa : Option Addr) (scap m : Nat) (ls : List Lvl) (w : World) (h : Shs w a xs) (h' : Lvls w sa ls) (hx : xs.length = n) (hl : ls.length = m) (hn : n ≤ 1048576) (hm : fldSum xs ≤ 1048576) (hm' : m ≤ 1048576) (h5w : d.mode = 5 → ¬ widthD d = 0) :
  Calls Tryz.prog 106 #[d.val (.slice a n cap) (.slice sa m scap)] w fun r w' => r = .returned (.bool (scanD d ls)) ∧ Below w.heap.size w w' := by
 have HL := Lib.hid hl; clear hl
 have HX := Lib.hid hx; clear hx
 have HSs := Lib.hid h; clear h
 have HSl := Lib.hid h'; clear h'
 obtain ⟨R, hR⟩ : ∃ R, scanD d ls = R := ⟨_, rfl⟩
 rw [hR]
 have HR := Lib.hid hR; clear hR
 have hne := run_eql_scan
 go_enter Tryz.func106, Tryz.ntmps106
 go_wp2_with (first | ((with_reducible show wpList _ _ _ (⟨_, Op.load 40 _, _, _, _, _⟩ :: _) _ _); first | (refine wlm w.heap.size (Dc.cl d (.slice a n cap) (.slice sa m scap)) (range_of_box (t := 40) (hset_new rfl)) ?_) | (refine wlw w.heap.size (Dc.cl d (.slice a n cap) (.slice sa m scap)) (range_of_box (t := 40) (hset_new rfl)) ?_)))
 refine (implWidthD_any d a cap n xs sa scap m ls _ (HSs.out.keep bl) (Sl.keep HSl.out bl) HX.out HL.out hn hm hm').mono ?_
 rintro r w1 ⟨rfl, hb1⟩
 have hz1 := hb1.size
 try simp only [World.size_alloc, World.size_setCell, World.size_drew] at hz1
 have hb1b : Below w.heap.size w w1 := by exact bl
 have kA := box_new0 hb1
 have hBA := box_lt0 hb1
 try simp only [World.size_alloc, World.size_setCell, World.size_drew] at kA
 try simp only [World.size_alloc, World.size_setCell, World.size_drew] at hBA
 clear hb1; have hb1 := hb1b; clear hb1b
 obtain ⟨v, hv⟩ : ∃ v, v = widthD d := ⟨_, rfl⟩
 rw [← hv]
 have HVC := Lib.hid (show v = 0 ∨ v = 4 ∨ v = 8 by rw [hv]; exact widthD_cases d)
 by_cases hv0 : v = 0
 ·have gv : decide (0 < v) = false := by simp [hv0]
  have n5 : ¬ d.mode = 5 := fun hM => h5w hM (by rw [← hv, hv0])
  have HV := Lib.hid hv; clear hv
  clear h5w
  by_cases h679 : d.mode = 6 ∨ d.mode = 7 ∨ d.mode = 9
  ·have HB := Lib.hid (show sameS d.bits d.have_ 0 0 = R by rw [← HR.out, scanD, if_pos h679])
   rcases h679 with hM | hM | hM
   all_goals
    go_wp2
    go_ret
    exact ⟨ret_bool HB.out, by exact bl⟩
  ·have HB := Lib.hid (show scanOk d.bits d.have_ = R by rw [← HR.out, scanD, if_neg h679, if_neg n5, ← HV.out, if_pos hv0, ite_self])
   have g6 : ¬ d.mode = 6 := fun h => h679 (.inl h)
   have g7 : ¬ d.mode = 7 := fun h => h679 (.inr (.inl h))
   have g9 : ¬ d.mode = 9 := fun h => h679 (.inr (.inr h))
   have e6 : (d.mode == 6) = false := by simp [g6]
   have e7 : (d.mode == 7) = false := by simp [g7]
   have e9 : (d.mode == 9) = false := by simp [g9]
   clear HR h679 g6 g7 g9
   go_wp2_with fail
   refine (implScanOk_any _ _ _).mono ?_
   rintro r w2 ⟨rfl, hb2⟩
   go_wp2
   go_ret
   exact ⟨ret_bool HB.out, by exact bl⟩
 ·have gv : decide (0 < v) = true := by have := HVC.out; simp; omega
  have hM58 : d.mode = 5 ∨ d.mode = 8 := by
   by_cases h5 : d.mode = 5
   ·exact .inl h5
   ·by_cases h8 : d.mode = 8
    ·exact .inr h8
    ·exact absurd (by rw [hv]; simp [widthD, h5, h8]) hv0
  have HV := Lib.hid hv; clear hv
  clear h5w
  rcases hM58 with hM | hM
  ·have HB := Lib.hid (show scanFits v d.have_ d.bits (topL ls) = R by rw [← HR.out, scanD, if_neg (by omega), if_pos hM, HV.out])
   have e5 : (d.mode == 5) = true := by simp [hM]
   have e6 : (d.mode == 6) = false := by simp [hM]
   have e7 : (d.mode == 7) = false := by simp [hM]
   have e8 : (d.mode == 8) = false := by simp [hM]
   have e9 : (d.mode == 9) = false := by simp [hM]
   clear HR hM hv0
   go_wp2_with (first | ((with_reducible show wpList _ _ _ (⟨_, Op.load 40 _, _, _, _, _⟩ :: _) _ _); first | (refine wla w.heap.size (Dc.cl d (.slice a n cap) (.slice sa m scap)) ?_) | (refine wlb w.heap.size (Dc.cl d (.slice a n cap) (.slice sa m scap)) ?_)))
   refine (implTop_any d a cap n xs sa scap m ls _ (HSs.out.keep bl) (Sl.keep HSl.out bl) HX.out HL.out hn hm hm').mono ?_
   rintro r w2 ⟨rfl, hb2⟩
   have kA2 := box_next (hb2.mono (Nat.le_refl _)) hBA kA
   have hBA2 := Nat.lt_of_lt_of_le hBA hb2.size
   clear kA
   obtain ⟨room, hroom⟩ : ∃ t, t = topL ls := ⟨_, rfl⟩
   rw [← hroom] at HB ⊢
   clear hroom
   have hv8 : v ≤ 8 := by have := HVC.out; omega
   have hv1 : 0 ≤ v := by have := HVC.out; omega
   cases hin : inB d.have_ 0 (v - 1)
   ·have HF := Lib.hid (show false = R by rw [← HB.out, scanFits, hin]; rfl)
    go_wp2_with (first | (go_at_call 100; refine (within_any _ _ _ _).mono ?_; rintro r w3 ⟨rfl, rfl⟩))
    go_ret
    exact ⟨ret_bool HF.out, by exact bl⟩
   ·have HF := Lib.hid (show (decide (d.bits / 2 ^ (8 * d.have_).toNat = 0) && decide (v - d.have_ ≤ room)) = R by rw [← HB.out, scanFits, hin]; rfl)
    have hh : 0 ≤ d.have_ ∧ d.have_ ≤ v - 1 := by simpa only [inB, decide_eq_true_eq] using hin
    have hh0 := hh.1
    have hh1 : d.have_ ≤ 7 := by have := HVC.out; omega
    clear hh HB
    go_wp2_with (first | (go_at_call 100; refine (within_any _ _ _ _).mono ?_; rintro r w3 ⟨rfl, rfl⟩))
    all_goals
     go_ret
     refine ⟨ret_bool ?_, by exact bl⟩
     rw [← HF.out]
     simp_all
  ·have HB := Lib.hid (show scanFits v d.have_ d.bits d.want = R by rw [← HR.out, scanD, if_neg (by omega), if_neg (by omega), if_pos hM, if_neg (by rw [← HV.out]; exact hv0), HV.out])
   have e5 : (d.mode == 5) = false := by simp [hM]
   have e6 : (d.mode == 6) = false := by simp [hM]
   have e7 : (d.mode == 7) = false := by simp [hM]
   have e8 : (d.mode == 8) = true := by simp [hM]
   have e9 : (d.mode == 9) = false := by simp [hM]
   clear HR hM hv0
   go_wp2_with (first | ((with_reducible show wpList _ _ _ (⟨_, Op.load 40 _, _, _, _, _⟩ :: _) _ _); first | (refine wla w.heap.size (Dc.cl d (.slice a n cap) (.slice sa m scap)) ?_) | (refine wlb w.heap.size (Dc.cl d (.slice a n cap) (.slice sa m scap)) ?_)))
   refine (implTop_any d a cap n xs sa scap m ls _ (HSs.out.keep bl) (Sl.keep HSl.out bl) HX.out HL.out hn hm hm').mono ?_
   rintro r w2 ⟨rfl, hb2⟩
   have kA2 := box_next (hb2.mono (Nat.le_refl _)) hBA kA
   have hBA2 := Nat.lt_of_lt_of_le hBA hb2.size
   clear kA
   obtain ⟨room, hroom⟩ : ∃ t, t = d.want := ⟨_, rfl⟩
   rw [← hroom] at HB
   have hv8 : v ≤ 8 := by have := HVC.out; omega
   have hv1 : 0 ≤ v := by have := HVC.out; omega
   cases hin : inB d.have_ 0 (v - 1)
   ·have HF := Lib.hid (show false = R by rw [← HB.out, scanFits, hin]; rfl)
    go_wp2_with (first | (go_at_call 100; refine (within_any _ _ _ _).mono ?_; rintro r w3 ⟨rfl, rfl⟩))
    go_ret
    exact ⟨ret_bool HF.out, by exact bl⟩
   ·have HF := Lib.hid (show (decide (d.bits / 2 ^ (8 * d.have_).toNat = 0) && decide (v - d.have_ ≤ room)) = R by rw [← HB.out, scanFits, hin]; rfl)
    have hh : 0 ≤ d.have_ ∧ d.have_ ≤ v - 1 := by simpa only [inB, decide_eq_true_eq] using hin
    have hh0 := hh.1
    have hh1 : d.have_ ≤ 7 := by have := HVC.out; omega
    clear hh HB
    go_wp2_with (first | (go_at_call 100; refine (within_any _ _ _ _).mono ?_; rintro r w3 ⟨rfl, rfl⟩))
    all_goals
     go_ret
     refine ⟨ret_bool ?_, by exact bl⟩
     rw [← HF.out]
     simp_all
set_option maxRecDepth 100000 in
set_option maxHeartbeats 4000000 in
theorem implModeOk_m1 (d : Dc) (a : Option Addr) (cap n : Nat) (xs : List Shp) (sa : Option Addr) (scap m : Nat) (ls : List Lvl) (w : World) (h : Shs w a xs) (h' : Lvls w sa ls) (hx : xs.length = n) (hl : ls.length = m) (hn : n ≤ 1048576) (hm : fldSum xs ≤ 1048576) (hm' : m ≤ 1048576) (h6 : wireOk d.wire = true) (hM : d.mode = 1) (R : Bool) (hT : (wantOk d ls && kindOk d) = R) :
  Calls Tryz.prog 105 #[d.val (.slice a n cap) (.slice sa m scap)] w fun r w' => r = .returned (.bool R) ∧ Below w.heap.size w w' := by
 have HL := Lib.hid hl; clear hl
 have HX := Lib.hid hx; clear hx
 have HSs := Lib.hid h; clear h
 have HSl := Lib.hid h'; clear h'
 have e1 : (d.mode == 1) = true := by simp [hM]
 have e2 : (d.mode == 2) = false := by simp [hM]
 have e3 : (d.mode == 3) = false := by simp [hM]
 have e4 : (d.mode == 4) = false := by simp [hM]
 have e5 : (d.mode == 5) = false := by simp [hM]
 have e6 : (d.mode == 6) = false := by simp [hM]
 have e7 : (d.mode == 7) = false := by simp [hM]
 have e8 : (d.mode == 8) = false := by simp [hM]
 have e9 : (d.mode == 9) = false := by simp [hM]
 have hW0 : wantOk d ls = (d.want == 0) := by simp only [wantOk, hM]; rfl
 have hK0 : kindOk d = true := by simp only [kindOk, hM]; rfl
 rw [hW0, hK0] at hT
 have HT := Lib.hid hT; clear hT hM hW0 hK0
 have hne2 := run_neq_fld
 go_enter Tryz.func105, Tryz.ntmps105
 cases g3 : (d.want == 0)
 ·skip
  have HB := Lib.hid (show false = R by rw [← HT.out]; simp only [g3, Bool.and_false, Bool.false_and, Bool.true_and, Bool.and_true, Bool.not_true, Bool.not_false, Bool.or_true, Bool.true_or, Bool.or_false, Bool.false_or])
  clear HT
  go_wp2_with (first | (go_at_call 97; refine (implWidthOf_any _ _).mono ?_; rintro r wx ⟨rfl, rfl⟩) | ((with_reducible show wpList _ _ _ (⟨_, Op.load 40 _, _, _, _, _⟩ :: _) _ _); first | (refine wlm w.heap.size (Dc.cl d (.slice a n cap) (.slice sa m scap)) (range_of_box (t := 40) (hset_new rfl)) ?_) | (refine wlw w.heap.size (Dc.cl d (.slice a n cap) (.slice sa m scap)) (range_of_box (t := 40) (hset_new rfl)) ?_)) | ((with_reducible show wpList _ _ _ (⟨_, Op.load 40 _, _, _, _, _⟩ :: _) _ _); first | (refine wla w.heap.size (Dc.cl d (.slice a n cap) (.slice sa m scap)) ?_) | (refine wlb w.heap.size (Dc.cl d (.slice a n cap) (.slice sa m scap)) ?_)))
  go_ret
  exact ⟨ret_bool HB.out, by exact bl⟩
 ·skip
  have HB := Lib.hid (show true = R by rw [← HT.out]; simp only [g3, Bool.and_false, Bool.false_and, Bool.true_and, Bool.and_true, Bool.not_true, Bool.not_false, Bool.or_true, Bool.true_or, Bool.or_false, Bool.false_or])
  clear HT
  go_wp2_with (first | (go_at_call 97; refine (implWidthOf_any _ _).mono ?_; rintro r wx ⟨rfl, rfl⟩) | ((with_reducible show wpList _ _ _ (⟨_, Op.load 40 _, _, _, _, _⟩ :: _) _ _); first | (refine wlm w.heap.size (Dc.cl d (.slice a n cap) (.slice sa m scap)) (range_of_box (t := 40) (hset_new rfl)) ?_) | (refine wlw w.heap.size (Dc.cl d (.slice a n cap) (.slice sa m scap)) (range_of_box (t := 40) (hset_new rfl)) ?_)) | ((with_reducible show wpList _ _ _ (⟨_, Op.load 40 _, _, _, _, _⟩ :: _) _ _); first | (refine wla w.heap.size (Dc.cl d (.slice a n cap) (.slice sa m scap)) ?_) | (refine wlb w.heap.size (Dc.cl d (.slice a n cap) (.slice sa m scap)) ?_)))
  go_ret
  exact ⟨ret_bool HB.out, by exact bl⟩
set_option maxRecDepth 100000 in
set_option maxHeartbeats 4000000 in
theorem implModeOk_m2 (d : Dc) (a : Option Addr) (cap n : Nat) (xs : List Shp) (sa : Option Addr) (scap m : Nat) (ls : List Lvl) (w : World) (h : Shs w a xs) (h' : Lvls w sa ls) (hx : xs.length = n) (hl : ls.length = m) (hn : n ≤ 1048576) (hm : fldSum xs ≤ 1048576) (hm' : m ≤ 1048576) (h6 : wireOk d.wire = true) (hM : d.mode = 2) (R : Bool) (hT : (wantOk d ls && kindOk d) = R) :
  Calls Tryz.prog 105 #[d.val (.slice a n cap) (.slice sa m scap)] w fun r w' => r = .returned (.bool R) ∧ Below w.heap.size w w' := by
 have HL := Lib.hid hl; clear hl
 have HX := Lib.hid hx; clear hx
 have HSs := Lib.hid h; clear h
 have HSl := Lib.hid h'; clear h'
 have e1 : (d.mode == 1) = false := by simp [hM]
 have e2 : (d.mode == 2) = true := by simp [hM]
 have e3 : (d.mode == 3) = false := by simp [hM]
 have e4 : (d.mode == 4) = false := by simp [hM]
 have e5 : (d.mode == 5) = false := by simp [hM]
 have e6 : (d.mode == 6) = false := by simp [hM]
 have e7 : (d.mode == 7) = false := by simp [hM]
 have e8 : (d.mode == 8) = false := by simp [hM]
 have e9 : (d.mode == 9) = false := by simp [hM]
 have hW0 : wantOk d ls = (d.want == 0) := by simp only [wantOk, hM]; rfl
 have hK0 : kindOk d = true := by simp only [kindOk, hM]; rfl
 rw [hW0, hK0] at hT
 have HT := Lib.hid hT; clear hT hM hW0 hK0
 have hne2 := run_neq_fld
 go_enter Tryz.func105, Tryz.ntmps105
 cases g3 : (d.want == 0)
 ·skip
  have HB := Lib.hid (show false = R by rw [← HT.out]; simp only [g3, Bool.and_false, Bool.false_and, Bool.true_and, Bool.and_true, Bool.not_true, Bool.not_false, Bool.or_true, Bool.true_or, Bool.or_false, Bool.false_or])
  clear HT
  go_wp2_with (first | (go_at_call 97; refine (implWidthOf_any _ _).mono ?_; rintro r wx ⟨rfl, rfl⟩) | ((with_reducible show wpList _ _ _ (⟨_, Op.load 40 _, _, _, _, _⟩ :: _) _ _); first | (refine wlm w.heap.size (Dc.cl d (.slice a n cap) (.slice sa m scap)) (range_of_box (t := 40) (hset_new rfl)) ?_) | (refine wlw w.heap.size (Dc.cl d (.slice a n cap) (.slice sa m scap)) (range_of_box (t := 40) (hset_new rfl)) ?_)) | ((with_reducible show wpList _ _ _ (⟨_, Op.load 40 _, _, _, _, _⟩ :: _) _ _); first | (refine wla w.heap.size (Dc.cl d (.slice a n cap) (.slice sa m scap)) ?_) | (refine wlb w.heap.size (Dc.cl d (.slice a n cap) (.slice sa m scap)) ?_)))
  go_ret
  exact ⟨ret_bool HB.out, by exact bl⟩
 ·skip
  have HB := Lib.hid (show true = R by rw [← HT.out]; simp only [g3, Bool.and_false, Bool.false_and, Bool.true_and, Bool.and_true, Bool.not_true, Bool.not_false, Bool.or_true, Bool.true_or, Bool.or_false, Bool.false_or])
  clear HT
  go_wp2_with (first | (go_at_call 97; refine (implWidthOf_any _ _).mono ?_; rintro r wx ⟨rfl, rfl⟩) | ((with_reducible show wpList _ _ _ (⟨_, Op.load 40 _, _, _, _, _⟩ :: _) _ _); first | (refine wlm w.heap.size (Dc.cl d (.slice a n cap) (.slice sa m scap)) (range_of_box (t := 40) (hset_new rfl)) ?_) | (refine wlw w.heap.size (Dc.cl d (.slice a n cap) (.slice sa m scap)) (range_of_box (t := 40) (hset_new rfl)) ?_)) | ((with_reducible show wpList _ _ _ (⟨_, Op.load 40 _, _, _, _, _⟩ :: _) _ _); first | (refine wla w.heap.size (Dc.cl d (.slice a n cap) (.slice sa m scap)) ?_) | (refine wlb w.heap.size (Dc.cl d (.slice a n cap) (.slice sa m scap)) ?_)))
  go_ret
  exact ⟨ret_bool HB.out, by exact bl⟩
set_option maxRecDepth 100000 in
set_option maxHeartbeats 4000000 in
theorem implModeOk_m3 (d : Dc) (a : Option Addr) (cap n : Nat) (xs : List Shp) (sa : Option Addr) (scap m : Nat) (ls : List Lvl) (w : World) (h : Shs w a xs) (h' : Lvls w sa ls) (hx : xs.length = n) (hl : ls.length = m) (hn : n ≤ 1048576) (hm : fldSum xs ≤ 1048576) (hm' : m ≤ 1048576) (h6 : wireOk d.wire = true) (hM : d.mode = 3) (R : Bool) (hT : (wantOk d ls && kindOk d) = R) :
  Calls Tryz.prog 105 #[d.val (.slice a n cap) (.slice sa m scap)] w fun r w' => r = .returned (.bool R) ∧ Below w.heap.size w w' := by
 have HL := Lib.hid hl; clear hl
 have HX := Lib.hid hx; clear hx
 have HSs := Lib.hid h; clear h
 have HSl := Lib.hid h'; clear h'
 have e1 : (d.mode == 1) = false := by simp [hM]
 have e2 : (d.mode == 2) = false := by simp [hM]
 have e3 : (d.mode == 3) = true := by simp [hM]
 have e4 : (d.mode == 4) = false := by simp [hM]
 have e5 : (d.mode == 5) = false := by simp [hM]
 have e6 : (d.mode == 6) = false := by simp [hM]
 have e7 : (d.mode == 7) = false := by simp [hM]
 have e8 : (d.mode == 8) = false := by simp [hM]
 have e9 : (d.mode == 9) = false := by simp [hM]
 have hW0 : wantOk d ls = (d.want == 0) := by simp only [wantOk, hM]; rfl
 have hK0 : kindOk d = ((d.wire == 0) && (sameF ⟨d.field.number, d.field.kind, d.field.rep, d.field.packed, d.field.msg⟩ ⟨0, 0, false, false, 0⟩ || allowed d.field d.wire)) := by simp only [kindOk, hM]; rfl
 rw [hW0, hK0] at hT
 have HT := Lib.hid hT; clear hT hM hW0 hK0
 have hne2 := run_neq_fld
 go_enter Tryz.func105, Tryz.ntmps105
 cases g3 : (d.want == 0)
 ·skip
  have HB := Lib.hid (show false = R by rw [← HT.out]; simp only [g3, Bool.and_false, Bool.false_and, Bool.true_and, Bool.and_true, Bool.not_true, Bool.not_false, Bool.or_true, Bool.true_or, Bool.or_false, Bool.false_or])
  clear HT
  go_wp2_with (first | (go_at_call 97; refine (implWidthOf_any _ _).mono ?_; rintro r wx ⟨rfl, rfl⟩) | ((with_reducible show wpList _ _ _ (⟨_, Op.load 40 _, _, _, _, _⟩ :: _) _ _); first | (refine wlm w.heap.size (Dc.cl d (.slice a n cap) (.slice sa m scap)) (range_of_box (t := 40) (hset_new rfl)) ?_) | (refine wlw w.heap.size (Dc.cl d (.slice a n cap) (.slice sa m scap)) (range_of_box (t := 40) (hset_new rfl)) ?_)) | ((with_reducible show wpList _ _ _ (⟨_, Op.load 40 _, _, _, _, _⟩ :: _) _ _); first | (refine wla w.heap.size (Dc.cl d (.slice a n cap) (.slice sa m scap)) ?_) | (refine wlb w.heap.size (Dc.cl d (.slice a n cap) (.slice sa m scap)) ?_)))
  go_ret
  exact ⟨ret_bool HB.out, by exact bl⟩
 ·skip
  have hk4 : (d.wire == 0) = true ∨ (d.wire == 0) = false := by cases (d.wire == 0) <;> simp
  rcases hk4 with g4 | g4
  ·skip
   cases gF : sameF ⟨d.field.number, d.field.kind, d.field.rep, d.field.packed, d.field.msg⟩ ⟨0, 0, false, false, 0⟩
   ·skip
    go_wp2_with (first | (go_at_call 97; refine (implWidthOf_any _ _).mono ?_; rintro r wx ⟨rfl, rfl⟩) | ((with_reducible show wpList _ _ _ (⟨_, Op.load 40 _, _, _, _, _⟩ :: _) _ _); first | (refine wlm w.heap.size (Dc.cl d (.slice a n cap) (.slice sa m scap)) (range_of_box (t := 40) (hset_new rfl)) ?_) | (refine wlw w.heap.size (Dc.cl d (.slice a n cap) (.slice sa m scap)) (range_of_box (t := 40) (hset_new rfl)) ?_)) | ((with_reducible show wpList _ _ _ (⟨_, Op.load 40 _, _, _, _, _⟩ :: _) _ _); first | (refine wla w.heap.size (Dc.cl d (.slice a n cap) (.slice sa m scap)) ?_) | (refine wlb w.heap.size (Dc.cl d (.slice a n cap) (.slice sa m scap)) ?_)))
    refine (implAllowed_any d.field d.wire _ h6).mono ?_
    rintro r w1 ⟨rfl, hb1⟩
    have hz1 := hb1.size
    try simp only [World.size_alloc, World.size_setCell, World.size_drew] at hz1
    have hb1b : Below w.heap.size w w1 := by exact bl
    clear hb1; have hb1 := hb1b; clear hb1b
    have HB := Lib.hid (show allowed d.field d.wire = R by rw [← HT.out]; simp only [g3, g4, gF, Bool.and_false, Bool.false_and, Bool.true_and, Bool.and_true, Bool.not_true, Bool.not_false, Bool.or_true, Bool.true_or, Bool.or_false, Bool.false_or])
    clear HT
    rw [HB.out]
    go_wp2
    go_ret
    exact ⟨rfl, by exact bl⟩
   ·skip
    have HB := Lib.hid (show true = R by rw [← HT.out]; simp only [g3, g4, gF, Bool.and_false, Bool.false_and, Bool.true_and, Bool.and_true, Bool.not_true, Bool.not_false, Bool.or_true, Bool.true_or, Bool.or_false, Bool.false_or])
    clear HT
    go_wp2_with (first | (go_at_call 97; refine (implWidthOf_any _ _).mono ?_; rintro r wx ⟨rfl, rfl⟩) | ((with_reducible show wpList _ _ _ (⟨_, Op.load 40 _, _, _, _, _⟩ :: _) _ _); first | (refine wlm w.heap.size (Dc.cl d (.slice a n cap) (.slice sa m scap)) (range_of_box (t := 40) (hset_new rfl)) ?_) | (refine wlw w.heap.size (Dc.cl d (.slice a n cap) (.slice sa m scap)) (range_of_box (t := 40) (hset_new rfl)) ?_)) | ((with_reducible show wpList _ _ _ (⟨_, Op.load 40 _, _, _, _, _⟩ :: _) _ _); first | (refine wla w.heap.size (Dc.cl d (.slice a n cap) (.slice sa m scap)) ?_) | (refine wlb w.heap.size (Dc.cl d (.slice a n cap) (.slice sa m scap)) ?_)))
    go_ret
    exact ⟨ret_bool HB.out, by exact bl⟩
  ·skip
   have HB := Lib.hid (show false = R by rw [← HT.out]; simp only [g3, g4, Bool.and_false, Bool.false_and, Bool.true_and, Bool.and_true, Bool.not_true, Bool.not_false, Bool.or_true, Bool.true_or, Bool.or_false, Bool.false_or])
   clear HT
   go_wp2_with (first | (go_at_call 97; refine (implWidthOf_any _ _).mono ?_; rintro r wx ⟨rfl, rfl⟩) | ((with_reducible show wpList _ _ _ (⟨_, Op.load 40 _, _, _, _, _⟩ :: _) _ _); first | (refine wlm w.heap.size (Dc.cl d (.slice a n cap) (.slice sa m scap)) (range_of_box (t := 40) (hset_new rfl)) ?_) | (refine wlw w.heap.size (Dc.cl d (.slice a n cap) (.slice sa m scap)) (range_of_box (t := 40) (hset_new rfl)) ?_)) | ((with_reducible show wpList _ _ _ (⟨_, Op.load 40 _, _, _, _, _⟩ :: _) _ _); first | (refine wla w.heap.size (Dc.cl d (.slice a n cap) (.slice sa m scap)) ?_) | (refine wlb w.heap.size (Dc.cl d (.slice a n cap) (.slice sa m scap)) ?_)))
   go_ret
   exact ⟨ret_bool HB.out, by exact bl⟩
set_option maxRecDepth 100000 in
set_option maxHeartbeats 4000000 in
theorem implModeOk_m4 (d : Dc) (a : Option Addr) (cap n : Nat) (xs : List Shp) (sa : Option Addr) (scap m : Nat) (ls : List Lvl) (w : World) (h : Shs w a xs) (h' : Lvls w sa ls) (hx : xs.length = n) (hl : ls.length = m) (hn : n ≤ 1048576) (hm : fldSum xs ≤ 1048576) (hm' : m ≤ 1048576) (h6 : wireOk d.wire = true) (hM : d.mode = 4) (R : Bool) (hT : (wantOk d ls && kindOk d) = R) :
  Calls Tryz.prog 105 #[d.val (.slice a n cap) (.slice sa m scap)] w fun r w' => r = .returned (.bool R) ∧ Below w.heap.size w w' := by
 have HL := Lib.hid hl; clear hl
 have HX := Lib.hid hx; clear hx
 have HSs := Lib.hid h; clear h
 have HSl := Lib.hid h'; clear h'
 have e1 : (d.mode == 1) = false := by simp [hM]
 have e2 : (d.mode == 2) = false := by simp [hM]
 have e3 : (d.mode == 3) = false := by simp [hM]
 have e4 : (d.mode == 4) = true := by simp [hM]
 have e5 : (d.mode == 5) = false := by simp [hM]
 have e6 : (d.mode == 6) = false := by simp [hM]
 have e7 : (d.mode == 7) = false := by simp [hM]
 have e8 : (d.mode == 8) = false := by simp [hM]
 have e9 : (d.mode == 9) = false := by simp [hM]
 have hW0 : wantOk d ls = (d.want == 0) := by simp only [wantOk, hM]; rfl
 have hK0 : kindOk d = ((d.wire == 2) && (sameF ⟨d.field.number, d.field.kind, d.field.rep, d.field.packed, d.field.msg⟩ ⟨0, 0, false, false, 0⟩ || allowed d.field d.wire)) := by simp only [kindOk, hM]; rfl
 rw [hW0, hK0] at hT
 have HT := Lib.hid hT; clear hT hM hW0 hK0
 have hne2 := run_neq_fld
 go_enter Tryz.func105, Tryz.ntmps105
 cases g3 : (d.want == 0)
 ·skip
  have HB := Lib.hid (show false = R by rw [← HT.out]; simp only [g3, Bool.and_false, Bool.false_and, Bool.true_and, Bool.and_true, Bool.not_true, Bool.not_false, Bool.or_true, Bool.true_or, Bool.or_false, Bool.false_or])
  clear HT
  go_wp2_with (first | (go_at_call 97; refine (implWidthOf_any _ _).mono ?_; rintro r wx ⟨rfl, rfl⟩) | ((with_reducible show wpList _ _ _ (⟨_, Op.load 40 _, _, _, _, _⟩ :: _) _ _); first | (refine wlm w.heap.size (Dc.cl d (.slice a n cap) (.slice sa m scap)) (range_of_box (t := 40) (hset_new rfl)) ?_) | (refine wlw w.heap.size (Dc.cl d (.slice a n cap) (.slice sa m scap)) (range_of_box (t := 40) (hset_new rfl)) ?_)) | ((with_reducible show wpList _ _ _ (⟨_, Op.load 40 _, _, _, _, _⟩ :: _) _ _); first | (refine wla w.heap.size (Dc.cl d (.slice a n cap) (.slice sa m scap)) ?_) | (refine wlb w.heap.size (Dc.cl d (.slice a n cap) (.slice sa m scap)) ?_)))
  go_ret
  exact ⟨ret_bool HB.out, by exact bl⟩
 ·skip
  have hk4 : (d.wire == 2) = true ∨ (d.wire == 2) = false := by cases (d.wire == 2) <;> simp
  rcases hk4 with g4 | g4
  ·skip
   cases gF : sameF ⟨d.field.number, d.field.kind, d.field.rep, d.field.packed, d.field.msg⟩ ⟨0, 0, false, false, 0⟩
   ·skip
    go_wp2_with (first | (go_at_call 97; refine (implWidthOf_any _ _).mono ?_; rintro r wx ⟨rfl, rfl⟩) | ((with_reducible show wpList _ _ _ (⟨_, Op.load 40 _, _, _, _, _⟩ :: _) _ _); first | (refine wlm w.heap.size (Dc.cl d (.slice a n cap) (.slice sa m scap)) (range_of_box (t := 40) (hset_new rfl)) ?_) | (refine wlw w.heap.size (Dc.cl d (.slice a n cap) (.slice sa m scap)) (range_of_box (t := 40) (hset_new rfl)) ?_)) | ((with_reducible show wpList _ _ _ (⟨_, Op.load 40 _, _, _, _, _⟩ :: _) _ _); first | (refine wla w.heap.size (Dc.cl d (.slice a n cap) (.slice sa m scap)) ?_) | (refine wlb w.heap.size (Dc.cl d (.slice a n cap) (.slice sa m scap)) ?_)))
    refine (implAllowed_any d.field d.wire _ h6).mono ?_
    rintro r w1 ⟨rfl, hb1⟩
    have hz1 := hb1.size
    try simp only [World.size_alloc, World.size_setCell, World.size_drew] at hz1
    have hb1b : Below w.heap.size w w1 := by exact bl
    clear hb1; have hb1 := hb1b; clear hb1b
    have HB := Lib.hid (show allowed d.field d.wire = R by rw [← HT.out]; simp only [g3, g4, gF, Bool.and_false, Bool.false_and, Bool.true_and, Bool.and_true, Bool.not_true, Bool.not_false, Bool.or_true, Bool.true_or, Bool.or_false, Bool.false_or])
    clear HT
    rw [HB.out]
    go_wp2
    go_ret
    exact ⟨rfl, by exact bl⟩
   ·skip
    have HB := Lib.hid (show true = R by rw [← HT.out]; simp only [g3, g4, gF, Bool.and_false, Bool.false_and, Bool.true_and, Bool.and_true, Bool.not_true, Bool.not_false, Bool.or_true, Bool.true_or, Bool.or_false, Bool.false_or])
    clear HT
    go_wp2_with (first | (go_at_call 97; refine (implWidthOf_any _ _).mono ?_; rintro r wx ⟨rfl, rfl⟩) | ((with_reducible show wpList _ _ _ (⟨_, Op.load 40 _, _, _, _, _⟩ :: _) _ _); first | (refine wlm w.heap.size (Dc.cl d (.slice a n cap) (.slice sa m scap)) (range_of_box (t := 40) (hset_new rfl)) ?_) | (refine wlw w.heap.size (Dc.cl d (.slice a n cap) (.slice sa m scap)) (range_of_box (t := 40) (hset_new rfl)) ?_)) | ((with_reducible show wpList _ _ _ (⟨_, Op.load 40 _, _, _, _, _⟩ :: _) _ _); first | (refine wla w.heap.size (Dc.cl d (.slice a n cap) (.slice sa m scap)) ?_) | (refine wlb w.heap.size (Dc.cl d (.slice a n cap) (.slice sa m scap)) ?_)))
    go_ret
    exact ⟨ret_bool HB.out, by exact bl⟩
  ·skip
   have HB := Lib.hid (show false = R by rw [← HT.out]; simp only [g3, g4, Bool.and_false, Bool.false_and, Bool.true_and, Bool.and_true, Bool.not_true, Bool.not_false, Bool.or_true, Bool.true_or, Bool.or_false, Bool.false_or])
   clear HT
   go_wp2_with (first | (go_at_call 97; refine (implWidthOf_any _ _).mono ?_; rintro r wx ⟨rfl, rfl⟩) | ((with_reducible show wpList _ _ _ (⟨_, Op.load 40 _, _, _, _, _⟩ :: _) _ _); first | (refine wlm w.heap.size (Dc.cl d (.slice a n cap) (.slice sa m scap)) (range_of_box (t := 40) (hset_new rfl)) ?_) | (refine wlw w.heap.size (Dc.cl d (.slice a n cap) (.slice sa m scap)) (range_of_box (t := 40) (hset_new rfl)) ?_)) | ((with_reducible show wpList _ _ _ (⟨_, Op.load 40 _, _, _, _, _⟩ :: _) _ _); first | (refine wla w.heap.size (Dc.cl d (.slice a n cap) (.slice sa m scap)) ?_) | (refine wlb w.heap.size (Dc.cl d (.slice a n cap) (.slice sa m scap)) ?_)))
   go_ret
   exact ⟨ret_bool HB.out, by exact bl⟩
set_option maxRecDepth 100000 in
set_option maxHeartbeats 4000000 in
theorem implModeOk_m5 (d : Dc) (a : Option Addr) (cap n : Nat) (xs : List Shp) (sa : Option Addr) (scap m : Nat) (ls : List Lvl) (w : World) (h : Shs w a xs) (h' : Lvls w sa ls) (hx : xs.length = n) (hl : ls.length = m) (hn : n ≤ 1048576) (hm : fldSum xs ≤ 1048576) (hm' : m ≤ 1048576) (h6 : wireOk d.wire = true) (hM : d.mode = 5) (R : Bool) (hT : (wantOk d ls && kindOk d) = R) :
  Calls Tryz.prog 105 #[d.val (.slice a n cap) (.slice sa m scap)] w fun r w' => r = .returned (.bool R) ∧ Below w.heap.size w w' := by
 have HL := Lib.hid hl; clear hl
 have HX := Lib.hid hx; clear hx
 have HSs := Lib.hid h; clear h
 have HSl := Lib.hid h'; clear h'
 have e1 : (d.mode == 1) = false := by simp [hM]
 have e2 : (d.mode == 2) = false := by simp [hM]
 have e3 : (d.mode == 3) = false := by simp [hM]
 have e4 : (d.mode == 4) = false := by simp [hM]
 have e5 : (d.mode == 5) = true := by simp [hM]
 have e6 : (d.mode == 6) = false := by simp [hM]
 have e7 : (d.mode == 7) = false := by simp [hM]
 have e8 : (d.mode == 8) = false := by simp [hM]
 have e9 : (d.mode == 9) = false := by simp [hM]
 have hW0 : wantOk d ls = (d.want == 0) := by simp only [wantOk, hM]; rfl
 have hK0 : kindOk d = (!(widthOf d.wire == 0) && (sameF ⟨d.field.number, d.field.kind, d.field.rep, d.field.packed, d.field.msg⟩ ⟨0, 0, false, false, 0⟩ || allowed d.field d.wire)) := by simp only [kindOk, hM]; rfl
 rw [hW0, hK0] at hT
 have HT := Lib.hid hT; clear hT hM hW0 hK0
 have hne2 := run_neq_fld
 go_enter Tryz.func105, Tryz.ntmps105
 cases g3 : (d.want == 0)
 ·skip
  have HB := Lib.hid (show false = R by rw [← HT.out]; simp only [g3, Bool.and_false, Bool.false_and, Bool.true_and, Bool.and_true, Bool.not_true, Bool.not_false, Bool.or_true, Bool.true_or, Bool.or_false, Bool.false_or])
  clear HT
  go_wp2_with (first | (go_at_call 97; refine (implWidthOf_any _ _).mono ?_; rintro r wx ⟨rfl, rfl⟩) | ((with_reducible show wpList _ _ _ (⟨_, Op.load 40 _, _, _, _, _⟩ :: _) _ _); first | (refine wlm w.heap.size (Dc.cl d (.slice a n cap) (.slice sa m scap)) (range_of_box (t := 40) (hset_new rfl)) ?_) | (refine wlw w.heap.size (Dc.cl d (.slice a n cap) (.slice sa m scap)) (range_of_box (t := 40) (hset_new rfl)) ?_)) | ((with_reducible show wpList _ _ _ (⟨_, Op.load 40 _, _, _, _, _⟩ :: _) _ _); first | (refine wla w.heap.size (Dc.cl d (.slice a n cap) (.slice sa m scap)) ?_) | (refine wlb w.heap.size (Dc.cl d (.slice a n cap) (.slice sa m scap)) ?_)))
  go_ret
  exact ⟨ret_bool HB.out, by exact bl⟩
 ·skip
  have hk4 : (widthOf d.wire == 0) = true ∨ (widthOf d.wire == 0) = false := by cases (widthOf d.wire == 0) <;> simp
  rcases hk4 with g4 | g4
  ·skip
   have g4c : decide (0 < widthOf d.wire) = false := by have := widthOf_cases d.wire; simp only [beq_iff_eq, beq_eq_false_iff_ne, ne_eq] at g4; simp; omega
   have HB := Lib.hid (show false = R by rw [← HT.out]; simp only [g3, g4, Bool.and_false, Bool.false_and, Bool.true_and, Bool.and_true, Bool.not_true, Bool.not_false, Bool.or_true, Bool.true_or, Bool.or_false, Bool.false_or])
   clear HT
   go_wp2_with (first | (go_at_call 97; refine (implWidthOf_any _ _).mono ?_; rintro r wx ⟨rfl, rfl⟩) | ((with_reducible show wpList _ _ _ (⟨_, Op.load 40 _, _, _, _, _⟩ :: _) _ _); first | (refine wlm w.heap.size (Dc.cl d (.slice a n cap) (.slice sa m scap)) (range_of_box (t := 40) (hset_new rfl)) ?_) | (refine wlw w.heap.size (Dc.cl d (.slice a n cap) (.slice sa m scap)) (range_of_box (t := 40) (hset_new rfl)) ?_)) | ((with_reducible show wpList _ _ _ (⟨_, Op.load 40 _, _, _, _, _⟩ :: _) _ _); first | (refine wla w.heap.size (Dc.cl d (.slice a n cap) (.slice sa m scap)) ?_) | (refine wlb w.heap.size (Dc.cl d (.slice a n cap) (.slice sa m scap)) ?_)))
   go_ret
   exact ⟨ret_bool HB.out, by exact bl⟩
  ·skip
   have g4c : decide (0 < widthOf d.wire) = true := by have := widthOf_cases d.wire; simp only [beq_iff_eq, beq_eq_false_iff_ne, ne_eq] at g4; simp; omega
   cases gF : sameF ⟨d.field.number, d.field.kind, d.field.rep, d.field.packed, d.field.msg⟩ ⟨0, 0, false, false, 0⟩
   ·skip
    go_wp2_with (first | (go_at_call 97; refine (implWidthOf_any _ _).mono ?_; rintro r wx ⟨rfl, rfl⟩) | ((with_reducible show wpList _ _ _ (⟨_, Op.load 40 _, _, _, _, _⟩ :: _) _ _); first | (refine wlm w.heap.size (Dc.cl d (.slice a n cap) (.slice sa m scap)) (range_of_box (t := 40) (hset_new rfl)) ?_) | (refine wlw w.heap.size (Dc.cl d (.slice a n cap) (.slice sa m scap)) (range_of_box (t := 40) (hset_new rfl)) ?_)) | ((with_reducible show wpList _ _ _ (⟨_, Op.load 40 _, _, _, _, _⟩ :: _) _ _); first | (refine wla w.heap.size (Dc.cl d (.slice a n cap) (.slice sa m scap)) ?_) | (refine wlb w.heap.size (Dc.cl d (.slice a n cap) (.slice sa m scap)) ?_)))
    refine (implAllowed_any d.field d.wire _ h6).mono ?_
    rintro r w1 ⟨rfl, hb1⟩
    have hz1 := hb1.size
    try simp only [World.size_alloc, World.size_setCell, World.size_drew] at hz1
    have hb1b : Below w.heap.size w w1 := by exact bl
    clear hb1; have hb1 := hb1b; clear hb1b
    have HB := Lib.hid (show allowed d.field d.wire = R by rw [← HT.out]; simp only [g3, g4, gF, Bool.and_false, Bool.false_and, Bool.true_and, Bool.and_true, Bool.not_true, Bool.not_false, Bool.or_true, Bool.true_or, Bool.or_false, Bool.false_or])
    clear HT
    rw [HB.out]
    go_wp2
    go_ret
    exact ⟨rfl, by exact bl⟩
   ·skip
    have HB := Lib.hid (show true = R by rw [← HT.out]; simp only [g3, g4, gF, Bool.and_false, Bool.false_and, Bool.true_and, Bool.and_true, Bool.not_true, Bool.not_false, Bool.or_true, Bool.true_or, Bool.or_false, Bool.false_or])
    clear HT
    go_wp2_with (first | (go_at_call 97; refine (implWidthOf_any _ _).mono ?_; rintro r wx ⟨rfl, rfl⟩) | ((with_reducible show wpList _ _ _ (⟨_, Op.load 40 _, _, _, _, _⟩ :: _) _ _); first | (refine wlm w.heap.size (Dc.cl d (.slice a n cap) (.slice sa m scap)) (range_of_box (t := 40) (hset_new rfl)) ?_) | (refine wlw w.heap.size (Dc.cl d (.slice a n cap) (.slice sa m scap)) (range_of_box (t := 40) (hset_new rfl)) ?_)) | ((with_reducible show wpList _ _ _ (⟨_, Op.load 40 _, _, _, _, _⟩ :: _) _ _); first | (refine wla w.heap.size (Dc.cl d (.slice a n cap) (.slice sa m scap)) ?_) | (refine wlb w.heap.size (Dc.cl d (.slice a n cap) (.slice sa m scap)) ?_)))
    go_ret
    exact ⟨ret_bool HB.out, by exact bl⟩
set_option maxRecDepth 100000 in
set_option maxHeartbeats 4000000 in
theorem implModeOk_m6 (d : Dc) (a : Option Addr) (cap n : Nat) (xs : List Shp) (sa : Option Addr) (scap m : Nat) (ls : List Lvl) (w : World) (h : Shs w a xs) (h' : Lvls w sa ls) (hx : xs.length = n) (hl : ls.length = m) (hn : n ≤ 1048576) (hm : fldSum xs ≤ 1048576) (hm' : m ≤ 1048576) (h6 : wireOk d.wire = true) (hM : d.mode = 6) (R : Bool) (hT : (wantOk d ls && kindOk d) = R) :
  Calls Tryz.prog 105 #[d.val (.slice a n cap) (.slice sa m scap)] w fun r w' => r = .returned (.bool R) ∧ Below w.heap.size w w' := by
 have HL := Lib.hid hl; clear hl
 have HX := Lib.hid hx; clear hx
 have HSs := Lib.hid h; clear h
 have HSl := Lib.hid h'; clear h'
 have e1 : (d.mode == 1) = false := by simp [hM]
 have e2 : (d.mode == 2) = false := by simp [hM]
 have e3 : (d.mode == 3) = false := by simp [hM]
 have e4 : (d.mode == 4) = false := by simp [hM]
 have e5 : (d.mode == 5) = false := by simp [hM]
 have e6 : (d.mode == 6) = true := by simp [hM]
 have e7 : (d.mode == 7) = false := by simp [hM]
 have e8 : (d.mode == 8) = false := by simp [hM]
 have e9 : (d.mode == 9) = false := by simp [hM]
 have hW0 : wantOk d ls = inB d.want 1 (topL ls) := by simp only [wantOk, hM]; rfl
 have hK0 : kindOk d = (d.field.kind == 6 || d.field.kind == 7) := by simp only [kindOk, hM]; rfl
 rw [hW0, hK0] at hT
 have HT := Lib.hid hT; clear hT hM hW0 hK0
 have hne2 := run_neq_fld
 go_enter Tryz.func105, Tryz.ntmps105
 cases g3 : inB d.want 1 (topL ls)
 ·skip
  go_wp2_with fail
  obtain ⟨wA, hwA⟩ : ∃ v, v = w.alloc (.cells (Dc.cl d (.slice a n cap) (.slice sa m scap)).toArray 40) := ⟨_, rfl⟩
  rw [← hwA]
  have kA : ∀ i : Nat, wA.cell? ⟨w.heap.size, i, none⟩ = ((Dc.cl d (.slice a n cap) (.slice sa m scap)).toArray : Array Value)[i]? := by rw [hwA]; exact box_cells (heap_nth0 w _)
  have hBA : w.heap.size < wA.heap.size := by rw [hwA]; simp
  have hbA : Below w.heap.size w wA := by rw [hwA]; exact bl
  clear hwA; have hzA := hbA.size
  have HSQ := Lib.hid (show Shs wA a xs from HSs.out.keep hbA); have HLQ := Lib.hid (show Lvls wA sa ls from Sl.keep HSl.out hbA)
  refine wp_region_ext (by kernel_rfl) (by kernel_rfl) ?_
  repeat (first | (refine wpQuiet_load_mid 40 _ rfl rfl w.heap.size 0 rfl (Dc.cl d (.slice a n cap) (.slice sa m scap)) _ (range_of_cells kA) hBA Tryz.underlying40 rfl size_Dec ?_; try simp only [Act.put, List.setIfInBounds_toArray, List.set_cons_zero, List.set_cons_succ]) | go_big_quiet_step (first | (go_at_call 96; refine Calls.ext_of (implTop_any d a cap n xs sa scap m ls _ (Shs.keep HSQ.out (World.ext_below _ _)) (Sl.keep HLQ.out (World.ext_below _ _)) HX.out HL.out hn hm hm')) | (go_at_call 100; refine Calls.ext_of_same (within_any _ _ _ _))))
  refine wpQuiet_nil ?_
  intro w30 hb30
  have hz30 := hb30.size
  have kA_ := box_next (hb30.mono (Nat.le_refl _)) hBA kA; clear kA; have kA := kA_; clear kA_
  have hBA_ := Nat.lt_of_lt_of_le hBA hb30.size; clear hBA; have hBA := hBA_; clear hBA_
  have HB := Lib.hid (show false = R by rw [← HT.out]; simp only [g3, Bool.and_false, Bool.false_and, Bool.true_and, Bool.and_true, Bool.not_true, Bool.not_false, Bool.or_true, Bool.true_or, Bool.or_false, Bool.false_or])
  clear HT
  go_wp2_with (first | (go_at_call 97; refine (implWidthOf_any _ _).mono ?_; rintro r wx ⟨rfl, rfl⟩) | ((with_reducible show wpList _ _ _ (⟨_, Op.load 40 _, _, _, _, _⟩ :: _) _ _); first | (refine wlm w.heap.size (Dc.cl d (.slice a n cap) (.slice sa m scap)) (range_of_box (t := 40) (hset_new rfl)) ?_) | (refine wlw w.heap.size (Dc.cl d (.slice a n cap) (.slice sa m scap)) (range_of_box (t := 40) (hset_new rfl)) ?_)) | ((with_reducible show wpList _ _ _ (⟨_, Op.load 40 _, _, _, _, _⟩ :: _) _ _); first | (refine wla w.heap.size (Dc.cl d (.slice a n cap) (.slice sa m scap)) ?_) | (refine wlb w.heap.size (Dc.cl d (.slice a n cap) (.slice sa m scap)) ?_)))
  go_ret
  exact ⟨ret_bool HB.out, by exact bl⟩
 ·skip
  go_wp2_with fail
  obtain ⟨wA, hwA⟩ : ∃ v, v = w.alloc (.cells (Dc.cl d (.slice a n cap) (.slice sa m scap)).toArray 40) := ⟨_, rfl⟩
  rw [← hwA]
  have kA : ∀ i : Nat, wA.cell? ⟨w.heap.size, i, none⟩ = ((Dc.cl d (.slice a n cap) (.slice sa m scap)).toArray : Array Value)[i]? := by rw [hwA]; exact box_cells (heap_nth0 w _)
  have hBA : w.heap.size < wA.heap.size := by rw [hwA]; simp
  have hbA : Below w.heap.size w wA := by rw [hwA]; exact bl
  clear hwA; have hzA := hbA.size
  have HSQ := Lib.hid (show Shs wA a xs from HSs.out.keep hbA); have HLQ := Lib.hid (show Lvls wA sa ls from Sl.keep HSl.out hbA)
  refine wp_region_ext (by kernel_rfl) (by kernel_rfl) ?_
  repeat (first | (refine wpQuiet_load_mid 40 _ rfl rfl w.heap.size 0 rfl (Dc.cl d (.slice a n cap) (.slice sa m scap)) _ (range_of_cells kA) hBA Tryz.underlying40 rfl size_Dec ?_; try simp only [Act.put, List.setIfInBounds_toArray, List.set_cons_zero, List.set_cons_succ]) | go_big_quiet_step (first | (go_at_call 96; refine Calls.ext_of (implTop_any d a cap n xs sa scap m ls _ (Shs.keep HSQ.out (World.ext_below _ _)) (Sl.keep HLQ.out (World.ext_below _ _)) HX.out HL.out hn hm hm')) | (go_at_call 100; refine Calls.ext_of_same (within_any _ _ _ _))))
  refine wpQuiet_nil ?_
  intro w30 hb30
  have hz30 := hb30.size
  have kA_ := box_next (hb30.mono (Nat.le_refl _)) hBA kA; clear kA; have kA := kA_; clear kA_
  have hBA_ := Nat.lt_of_lt_of_le hBA hb30.size; clear hBA; have hBA := hBA_; clear hBA_
  cases g6 : (d.field.kind == 6)
  ·skip
   cases g7 : (d.field.kind == 7)
   ·skip
    have HB := Lib.hid (show false = R by rw [← HT.out]; simp only [g3, g6, g7, Bool.and_false, Bool.false_and, Bool.true_and, Bool.and_true, Bool.not_true, Bool.not_false, Bool.or_true, Bool.true_or, Bool.or_false, Bool.false_or])
    clear HT
    go_wp2_with (first | (go_at_call 97; refine (implWidthOf_any _ _).mono ?_; rintro r wx ⟨rfl, rfl⟩) | ((with_reducible show wpList _ _ _ (⟨_, Op.load 40 _, _, _, _, _⟩ :: _) _ _); first | (refine wlm w.heap.size (Dc.cl d (.slice a n cap) (.slice sa m scap)) (range_of_box (t := 40) (hset_new rfl)) ?_) | (refine wlw w.heap.size (Dc.cl d (.slice a n cap) (.slice sa m scap)) (range_of_box (t := 40) (hset_new rfl)) ?_)) | ((with_reducible show wpList _ _ _ (⟨_, Op.load 40 _, _, _, _, _⟩ :: _) _ _); first | (refine wla w.heap.size (Dc.cl d (.slice a n cap) (.slice sa m scap)) ?_) | (refine wlb w.heap.size (Dc.cl d (.slice a n cap) (.slice sa m scap)) ?_)))
    go_ret
    exact ⟨ret_bool HB.out, by exact bl⟩
   ·skip
    have HB := Lib.hid (show true = R by rw [← HT.out]; simp only [g3, g6, g7, Bool.and_false, Bool.false_and, Bool.true_and, Bool.and_true, Bool.not_true, Bool.not_false, Bool.or_true, Bool.true_or, Bool.or_false, Bool.false_or])
    clear HT
    go_wp2_with (first | (go_at_call 97; refine (implWidthOf_any _ _).mono ?_; rintro r wx ⟨rfl, rfl⟩) | ((with_reducible show wpList _ _ _ (⟨_, Op.load 40 _, _, _, _, _⟩ :: _) _ _); first | (refine wlm w.heap.size (Dc.cl d (.slice a n cap) (.slice sa m scap)) (range_of_box (t := 40) (hset_new rfl)) ?_) | (refine wlw w.heap.size (Dc.cl d (.slice a n cap) (.slice sa m scap)) (range_of_box (t := 40) (hset_new rfl)) ?_)) | ((with_reducible show wpList _ _ _ (⟨_, Op.load 40 _, _, _, _, _⟩ :: _) _ _); first | (refine wla w.heap.size (Dc.cl d (.slice a n cap) (.slice sa m scap)) ?_) | (refine wlb w.heap.size (Dc.cl d (.slice a n cap) (.slice sa m scap)) ?_)))
    go_ret
    exact ⟨ret_bool HB.out, by exact bl⟩
  ·skip
   have HB := Lib.hid (show true = R by rw [← HT.out]; simp only [g3, g6, Bool.and_false, Bool.false_and, Bool.true_and, Bool.and_true, Bool.not_true, Bool.not_false, Bool.or_true, Bool.true_or, Bool.or_false, Bool.false_or])
   clear HT
   go_wp2_with (first | (go_at_call 97; refine (implWidthOf_any _ _).mono ?_; rintro r wx ⟨rfl, rfl⟩) | ((with_reducible show wpList _ _ _ (⟨_, Op.load 40 _, _, _, _, _⟩ :: _) _ _); first | (refine wlm w.heap.size (Dc.cl d (.slice a n cap) (.slice sa m scap)) (range_of_box (t := 40) (hset_new rfl)) ?_) | (refine wlw w.heap.size (Dc.cl d (.slice a n cap) (.slice sa m scap)) (range_of_box (t := 40) (hset_new rfl)) ?_)) | ((with_reducible show wpList _ _ _ (⟨_, Op.load 40 _, _, _, _, _⟩ :: _) _ _); first | (refine wla w.heap.size (Dc.cl d (.slice a n cap) (.slice sa m scap)) ?_) | (refine wlb w.heap.size (Dc.cl d (.slice a n cap) (.slice sa m scap)) ?_)))
   go_ret
   exact ⟨ret_bool HB.out, by exact bl⟩
set_option maxRecDepth 100000 in
set_option maxHeartbeats 4000000 in
theorem implModeOk_m7 (d : Dc) (a : Option Addr) (cap n : Nat) (xs : List Shp) (sa : Option Addr) (scap m : Nat) (ls : List Lvl) (w : World) (h : Shs w a xs) (h' : Lvls w sa ls) (hx : xs.length = n) (hl : ls.length = m) (hn : n ≤ 1048576) (hm : fldSum xs ≤ 1048576) (hm' : m ≤ 1048576) (h6 : wireOk d.wire = true) (hM : d.mode = 7) (R : Bool) (hT : (wantOk d ls && kindOk d) = R) :
  Calls Tryz.prog 105 #[d.val (.slice a n cap) (.slice sa m scap)] w fun r w' => r = .returned (.bool R) ∧ Below w.heap.size w w' := by
 have HL := Lib.hid hl; clear hl
 have HX := Lib.hid hx; clear hx
 have HSs := Lib.hid h; clear h
 have HSl := Lib.hid h'; clear h'
 have e1 : (d.mode == 1) = false := by simp [hM]
 have e2 : (d.mode == 2) = false := by simp [hM]
 have e3 : (d.mode == 3) = false := by simp [hM]
 have e4 : (d.mode == 4) = false := by simp [hM]
 have e5 : (d.mode == 5) = false := by simp [hM]
 have e6 : (d.mode == 6) = false := by simp [hM]
 have e7 : (d.mode == 7) = true := by simp [hM]
 have e8 : (d.mode == 8) = false := by simp [hM]
 have e9 : (d.mode == 9) = false := by simp [hM]
 have hW0 : wantOk d ls = inB d.want 1 (topL ls) := by simp only [wantOk, hM]; rfl
 have hK0 : kindOk d = true := by simp only [kindOk, hM]; rfl
 rw [hW0, hK0] at hT
 have HT := Lib.hid hT; clear hT hM hW0 hK0
 have hne2 := run_neq_fld
 go_enter Tryz.func105, Tryz.ntmps105
 cases g3 : inB d.want 1 (topL ls)
 ·skip
  go_wp2_with fail
  obtain ⟨wA, hwA⟩ : ∃ v, v = w.alloc (.cells (Dc.cl d (.slice a n cap) (.slice sa m scap)).toArray 40) := ⟨_, rfl⟩
  rw [← hwA]
  have kA : ∀ i : Nat, wA.cell? ⟨w.heap.size, i, none⟩ = ((Dc.cl d (.slice a n cap) (.slice sa m scap)).toArray : Array Value)[i]? := by rw [hwA]; exact box_cells (heap_nth0 w _)
  have hBA : w.heap.size < wA.heap.size := by rw [hwA]; simp
  have hbA : Below w.heap.size w wA := by rw [hwA]; exact bl
  clear hwA; have hzA := hbA.size
  have HSQ := Lib.hid (show Shs wA a xs from HSs.out.keep hbA); have HLQ := Lib.hid (show Lvls wA sa ls from Sl.keep HSl.out hbA)
  refine wp_region_ext (by kernel_rfl) (by kernel_rfl) ?_
  repeat (first | (refine wpQuiet_load_mid 40 _ rfl rfl w.heap.size 0 rfl (Dc.cl d (.slice a n cap) (.slice sa m scap)) _ (range_of_cells kA) hBA Tryz.underlying40 rfl size_Dec ?_; try simp only [Act.put, List.setIfInBounds_toArray, List.set_cons_zero, List.set_cons_succ]) | go_big_quiet_step (first | (go_at_call 96; refine Calls.ext_of (implTop_any d a cap n xs sa scap m ls _ (Shs.keep HSQ.out (World.ext_below _ _)) (Sl.keep HLQ.out (World.ext_below _ _)) HX.out HL.out hn hm hm')) | (go_at_call 100; refine Calls.ext_of_same (within_any _ _ _ _))))
  refine wpQuiet_nil ?_
  intro w30 hb30
  have hz30 := hb30.size
  have kA_ := box_next (hb30.mono (Nat.le_refl _)) hBA kA; clear kA; have kA := kA_; clear kA_
  have hBA_ := Nat.lt_of_lt_of_le hBA hb30.size; clear hBA; have hBA := hBA_; clear hBA_
  have HB := Lib.hid (show false = R by rw [← HT.out]; simp only [g3, Bool.and_false, Bool.false_and, Bool.true_and, Bool.and_true, Bool.not_true, Bool.not_false, Bool.or_true, Bool.true_or, Bool.or_false, Bool.false_or])
  clear HT
  go_wp2_with (first | (go_at_call 97; refine (implWidthOf_any _ _).mono ?_; rintro r wx ⟨rfl, rfl⟩) | ((with_reducible show wpList _ _ _ (⟨_, Op.load 40 _, _, _, _, _⟩ :: _) _ _); first | (refine wlm w.heap.size (Dc.cl d (.slice a n cap) (.slice sa m scap)) (range_of_box (t := 40) (hset_new rfl)) ?_) | (refine wlw w.heap.size (Dc.cl d (.slice a n cap) (.slice sa m scap)) (range_of_box (t := 40) (hset_new rfl)) ?_)) | ((with_reducible show wpList _ _ _ (⟨_, Op.load 40 _, _, _, _, _⟩ :: _) _ _); first | (refine wla w.heap.size (Dc.cl d (.slice a n cap) (.slice sa m scap)) ?_) | (refine wlb w.heap.size (Dc.cl d (.slice a n cap) (.slice sa m scap)) ?_)))
  go_ret
  exact ⟨ret_bool HB.out, by exact bl⟩
 ·skip
  go_wp2_with fail
  obtain ⟨wA, hwA⟩ : ∃ v, v = w.alloc (.cells (Dc.cl d (.slice a n cap) (.slice sa m scap)).toArray 40) := ⟨_, rfl⟩
  rw [← hwA]
  have kA : ∀ i : Nat, wA.cell? ⟨w.heap.size, i, none⟩ = ((Dc.cl d (.slice a n cap) (.slice sa m scap)).toArray : Array Value)[i]? := by rw [hwA]; exact box_cells (heap_nth0 w _)
  have hBA : w.heap.size < wA.heap.size := by rw [hwA]; simp
  have hbA : Below w.heap.size w wA := by rw [hwA]; exact bl
  clear hwA; have hzA := hbA.size
  have HSQ := Lib.hid (show Shs wA a xs from HSs.out.keep hbA); have HLQ := Lib.hid (show Lvls wA sa ls from Sl.keep HSl.out hbA)
  refine wp_region_ext (by kernel_rfl) (by kernel_rfl) ?_
  repeat (first | (refine wpQuiet_load_mid 40 _ rfl rfl w.heap.size 0 rfl (Dc.cl d (.slice a n cap) (.slice sa m scap)) _ (range_of_cells kA) hBA Tryz.underlying40 rfl size_Dec ?_; try simp only [Act.put, List.setIfInBounds_toArray, List.set_cons_zero, List.set_cons_succ]) | go_big_quiet_step (first | (go_at_call 96; refine Calls.ext_of (implTop_any d a cap n xs sa scap m ls _ (Shs.keep HSQ.out (World.ext_below _ _)) (Sl.keep HLQ.out (World.ext_below _ _)) HX.out HL.out hn hm hm')) | (go_at_call 100; refine Calls.ext_of_same (within_any _ _ _ _))))
  refine wpQuiet_nil ?_
  intro w30 hb30
  have hz30 := hb30.size
  have kA_ := box_next (hb30.mono (Nat.le_refl _)) hBA kA; clear kA; have kA := kA_; clear kA_
  have hBA_ := Nat.lt_of_lt_of_le hBA hb30.size; clear hBA; have hBA := hBA_; clear hBA_
  have HB := Lib.hid (show true = R by rw [← HT.out]; simp only [g3, Bool.and_false, Bool.false_and, Bool.true_and, Bool.and_true, Bool.not_true, Bool.not_false, Bool.or_true, Bool.true_or, Bool.or_false, Bool.false_or])
  clear HT
  go_wp2_with (first | (go_at_call 97; refine (implWidthOf_any _ _).mono ?_; rintro r wx ⟨rfl, rfl⟩) | ((with_reducible show wpList _ _ _ (⟨_, Op.load 40 _, _, _, _, _⟩ :: _) _ _); first | (refine wlm w.heap.size (Dc.cl d (.slice a n cap) (.slice sa m scap)) (range_of_box (t := 40) (hset_new rfl)) ?_) | (refine wlw w.heap.size (Dc.cl d (.slice a n cap) (.slice sa m scap)) (range_of_box (t := 40) (hset_new rfl)) ?_)) | ((with_reducible show wpList _ _ _ (⟨_, Op.load 40 _, _, _, _, _⟩ :: _) _ _); first | (refine wla w.heap.size (Dc.cl d (.slice a n cap) (.slice sa m scap)) ?_) | (refine wlb w.heap.size (Dc.cl d (.slice a n cap) (.slice sa m scap)) ?_)))
  go_ret
  exact ⟨ret_bool HB.out, by exact bl⟩
set_option maxRecDepth 100000 in
set_option maxHeartbeats 4000000 in
theorem implModeOk_m8 (d : Dc) (a : Option Addr) (cap n : Nat) (xs : List Shp) (sa : Option Addr) (scap m : Nat) (ls : List Lvl) (w : World) (h : Shs w a xs) (h' : Lvls w sa ls) (hx : xs.length = n) (hl : ls.length = m) (hn : n ≤ 1048576) (hm : fldSum xs ≤ 1048576) (hm' : m ≤ 1048576) (h6 : wireOk d.wire = true) (hM : d.mode = 8) (R : Bool) (hT : (wantOk d ls && kindOk d) = R) :
  Calls Tryz.prog 105 #[d.val (.slice a n cap) (.slice sa m scap)] w fun r w' => r = .returned (.bool R) ∧ Below w.heap.size w w' := by
 have HL := Lib.hid hl; clear hl
 have HX := Lib.hid hx; clear hx
 have HSs := Lib.hid h; clear h
 have HSl := Lib.hid h'; clear h'
 have e1 : (d.mode == 1) = false := by simp [hM]
 have e2 : (d.mode == 2) = false := by simp [hM]
 have e3 : (d.mode == 3) = false := by simp [hM]
 have e4 : (d.mode == 4) = false := by simp [hM]
 have e5 : (d.mode == 5) = false := by simp [hM]
 have e6 : (d.mode == 6) = false := by simp [hM]
 have e7 : (d.mode == 7) = false := by simp [hM]
 have e8 : (d.mode == 8) = true := by simp [hM]
 have e9 : (d.mode == 9) = false := by simp [hM]
 have hW0 : wantOk d ls = inB d.want 1 (topL ls) := by simp only [wantOk, hM]; rfl
 have hK0 : kindOk d = runsF d.field := by simp only [kindOk, hM]; rfl
 rw [hW0, hK0] at hT
 have HT := Lib.hid hT; clear hT hM hW0 hK0
 have hne2 := run_neq_fld
 go_enter Tryz.func105, Tryz.ntmps105
 cases g3 : inB d.want 1 (topL ls)
 ·skip
  go_wp2_with fail
  obtain ⟨wA, hwA⟩ : ∃ v, v = w.alloc (.cells (Dc.cl d (.slice a n cap) (.slice sa m scap)).toArray 40) := ⟨_, rfl⟩
  rw [← hwA]
  have kA : ∀ i : Nat, wA.cell? ⟨w.heap.size, i, none⟩ = ((Dc.cl d (.slice a n cap) (.slice sa m scap)).toArray : Array Value)[i]? := by rw [hwA]; exact box_cells (heap_nth0 w _)
  have hBA : w.heap.size < wA.heap.size := by rw [hwA]; simp
  have hbA : Below w.heap.size w wA := by rw [hwA]; exact bl
  clear hwA; have hzA := hbA.size
  have HSQ := Lib.hid (show Shs wA a xs from HSs.out.keep hbA); have HLQ := Lib.hid (show Lvls wA sa ls from Sl.keep HSl.out hbA)
  refine wp_region_ext (by kernel_rfl) (by kernel_rfl) ?_
  repeat (first | (refine wpQuiet_load_mid 40 _ rfl rfl w.heap.size 0 rfl (Dc.cl d (.slice a n cap) (.slice sa m scap)) _ (range_of_cells kA) hBA Tryz.underlying40 rfl size_Dec ?_; try simp only [Act.put, List.setIfInBounds_toArray, List.set_cons_zero, List.set_cons_succ]) | go_big_quiet_step (first | (go_at_call 96; refine Calls.ext_of (implTop_any d a cap n xs sa scap m ls _ (Shs.keep HSQ.out (World.ext_below _ _)) (Sl.keep HLQ.out (World.ext_below _ _)) HX.out HL.out hn hm hm')) | (go_at_call 100; refine Calls.ext_of_same (within_any _ _ _ _))))
  refine wpQuiet_nil ?_
  intro w30 hb30
  have hz30 := hb30.size
  have kA_ := box_next (hb30.mono (Nat.le_refl _)) hBA kA; clear kA; have kA := kA_; clear kA_
  have hBA_ := Nat.lt_of_lt_of_le hBA hb30.size; clear hBA; have hBA := hBA_; clear hBA_
  have HB := Lib.hid (show false = R by rw [← HT.out]; simp only [g3, Bool.and_false, Bool.false_and, Bool.true_and, Bool.and_true, Bool.not_true, Bool.not_false, Bool.or_true, Bool.true_or, Bool.or_false, Bool.false_or])
  clear HT
  go_wp2_with (first | (go_at_call 97; refine (implWidthOf_any _ _).mono ?_; rintro r wx ⟨rfl, rfl⟩) | ((with_reducible show wpList _ _ _ (⟨_, Op.load 40 _, _, _, _, _⟩ :: _) _ _); first | (refine wlm w.heap.size (Dc.cl d (.slice a n cap) (.slice sa m scap)) (range_of_box (t := 40) (hset_new rfl)) ?_) | (refine wlw w.heap.size (Dc.cl d (.slice a n cap) (.slice sa m scap)) (range_of_box (t := 40) (hset_new rfl)) ?_)) | ((with_reducible show wpList _ _ _ (⟨_, Op.load 40 _, _, _, _, _⟩ :: _) _ _); first | (refine wla w.heap.size (Dc.cl d (.slice a n cap) (.slice sa m scap)) ?_) | (refine wlb w.heap.size (Dc.cl d (.slice a n cap) (.slice sa m scap)) ?_)))
  go_ret
  exact ⟨ret_bool HB.out, by exact bl⟩
 ·skip
  go_wp2_with fail
  obtain ⟨wA, hwA⟩ : ∃ v, v = w.alloc (.cells (Dc.cl d (.slice a n cap) (.slice sa m scap)).toArray 40) := ⟨_, rfl⟩
  rw [← hwA]
  have kA : ∀ i : Nat, wA.cell? ⟨w.heap.size, i, none⟩ = ((Dc.cl d (.slice a n cap) (.slice sa m scap)).toArray : Array Value)[i]? := by rw [hwA]; exact box_cells (heap_nth0 w _)
  have hBA : w.heap.size < wA.heap.size := by rw [hwA]; simp
  have hbA : Below w.heap.size w wA := by rw [hwA]; exact bl
  clear hwA; have hzA := hbA.size
  have HSQ := Lib.hid (show Shs wA a xs from HSs.out.keep hbA); have HLQ := Lib.hid (show Lvls wA sa ls from Sl.keep HSl.out hbA)
  refine wp_region_ext (by kernel_rfl) (by kernel_rfl) ?_
  repeat (first | (refine wpQuiet_load_mid 40 _ rfl rfl w.heap.size 0 rfl (Dc.cl d (.slice a n cap) (.slice sa m scap)) _ (range_of_cells kA) hBA Tryz.underlying40 rfl size_Dec ?_; try simp only [Act.put, List.setIfInBounds_toArray, List.set_cons_zero, List.set_cons_succ]) | go_big_quiet_step (first | (go_at_call 96; refine Calls.ext_of (implTop_any d a cap n xs sa scap m ls _ (Shs.keep HSQ.out (World.ext_below _ _)) (Sl.keep HLQ.out (World.ext_below _ _)) HX.out HL.out hn hm hm')) | (go_at_call 100; refine Calls.ext_of_same (within_any _ _ _ _))))
  refine wpQuiet_nil ?_
  intro w30 hb30
  have hz30 := hb30.size
  have kA_ := box_next (hb30.mono (Nat.le_refl _)) hBA kA; clear kA; have kA := kA_; clear kA_
  have hBA_ := Nat.lt_of_lt_of_le hBA hb30.size; clear hBA; have hBA := hBA_; clear hBA_
  go_wp2_with (first | ((with_reducible show wpList _ _ _ (⟨_, Op.load 40 _, _, _, _, _⟩ :: _) _ _); first | (refine wla w.heap.size (Dc.cl d (.slice a n cap) (.slice sa m scap)) ?_) | (refine wlb w.heap.size (Dc.cl d (.slice a n cap) (.slice sa m scap)) ?_)))
  refine (implRuns_any d.field _).mono ?_
  rintro r w31 ⟨rfl, hb31⟩
  have hz31 := hb31.size
  try simp only [World.size_alloc, World.size_setCell, World.size_drew] at hz31
  have hb31b : Below w30.heap.size w30 w31 := by exact bl
  have kA_ := box_next hb31b hBA kA; clear kA
  have kA := kA_; clear kA_
  have hBA_ := Nat.lt_of_lt_of_le hBA hb31b.size; clear hBA; have hBA := hBA_; clear hBA_
  clear hb31; have hb31 := hb31b; clear hb31b
  have HB := Lib.hid (show runsF d.field = R by rw [← HT.out]; simp only [g3, Bool.and_false, Bool.false_and, Bool.true_and, Bool.and_true, Bool.not_true, Bool.not_false, Bool.or_true, Bool.true_or, Bool.or_false, Bool.false_or])
  clear HT
  rw [HB.out]
  go_wp2
  go_ret
  exact ⟨rfl, by exact bl⟩
set_option maxRecDepth 100000 in
set_option maxHeartbeats 4000000 in
theorem implModeOk_m9 (d : Dc) (a : Option Addr) (cap n : Nat) (xs : List Shp) (sa : Option Addr) (scap m : Nat) (ls : List Lvl) (w : World) (h : Shs w a xs) (h' : Lvls w sa ls) (hx : xs.length = n) (hl : ls.length = m) (hn : n ≤ 1048576) (hm : fldSum xs ≤ 1048576) (hm' : m ≤ 1048576) (h6 : wireOk d.wire = true) (hM : d.mode = 9) (R : Bool) (hT : (wantOk d ls && kindOk d) = R) :
  Calls Tryz.prog 105 #[d.val (.slice a n cap) (.slice sa m scap)] w fun r w' => r = .returned (.bool R) ∧ Below w.heap.size w w' := by
 have HL := Lib.hid hl; clear hl
 have HX := Lib.hid hx; clear hx
 have HSs := Lib.hid h; clear h
 have HSl := Lib.hid h'; clear h'
 have e1 : (d.mode == 1) = false := by simp [hM]
 have e2 : (d.mode == 2) = false := by simp [hM]
 have e3 : (d.mode == 3) = false := by simp [hM]
 have e4 : (d.mode == 4) = false := by simp [hM]
 have e5 : (d.mode == 5) = false := by simp [hM]
 have e6 : (d.mode == 6) = false := by simp [hM]
 have e7 : (d.mode == 7) = false := by simp [hM]
 have e8 : (d.mode == 8) = false := by simp [hM]
 have e9 : (d.mode == 9) = true := by simp [hM]
 have hW0 : wantOk d ls = (d.want == 0) := by simp only [wantOk, hM]; rfl
 have hK0 : kindOk d = true := by simp only [kindOk, hM]; rfl
 rw [hW0, hK0] at hT
 have HT := Lib.hid hT; clear hT hM hW0 hK0
 have hne2 := run_neq_fld
 go_enter Tryz.func105, Tryz.ntmps105
 cases g3 : (d.want == 0)
 ·skip
  have HB := Lib.hid (show false = R by rw [← HT.out]; simp only [g3, Bool.and_false, Bool.false_and, Bool.true_and, Bool.and_true, Bool.not_true, Bool.not_false, Bool.or_true, Bool.true_or, Bool.or_false, Bool.false_or])
  clear HT
  go_wp2_with (first | (go_at_call 97; refine (implWidthOf_any _ _).mono ?_; rintro r wx ⟨rfl, rfl⟩) | ((with_reducible show wpList _ _ _ (⟨_, Op.load 40 _, _, _, _, _⟩ :: _) _ _); first | (refine wlm w.heap.size (Dc.cl d (.slice a n cap) (.slice sa m scap)) (range_of_box (t := 40) (hset_new rfl)) ?_) | (refine wlw w.heap.size (Dc.cl d (.slice a n cap) (.slice sa m scap)) (range_of_box (t := 40) (hset_new rfl)) ?_)) | ((with_reducible show wpList _ _ _ (⟨_, Op.load 40 _, _, _, _, _⟩ :: _) _ _); first | (refine wla w.heap.size (Dc.cl d (.slice a n cap) (.slice sa m scap)) ?_) | (refine wlb w.heap.size (Dc.cl d (.slice a n cap) (.slice sa m scap)) ?_)))
  go_ret
  exact ⟨ret_bool HB.out, by exact bl⟩
 ·skip
  have HB := Lib.hid (show true = R by rw [← HT.out]; simp only [g3, Bool.and_false, Bool.false_and, Bool.true_and, Bool.and_true, Bool.not_true, Bool.not_false, Bool.or_true, Bool.true_or, Bool.or_false, Bool.false_or])
  clear HT
  go_wp2_with (first | (go_at_call 97; refine (implWidthOf_any _ _).mono ?_; rintro r wx ⟨rfl, rfl⟩) | ((with_reducible show wpList _ _ _ (⟨_, Op.load 40 _, _, _, _, _⟩ :: _) _ _); first | (refine wlm w.heap.size (Dc.cl d (.slice a n cap) (.slice sa m scap)) (range_of_box (t := 40) (hset_new rfl)) ?_) | (refine wlw w.heap.size (Dc.cl d (.slice a n cap) (.slice sa m scap)) (range_of_box (t := 40) (hset_new rfl)) ?_)) | ((with_reducible show wpList _ _ _ (⟨_, Op.load 40 _, _, _, _, _⟩ :: _) _ _); first | (refine wla w.heap.size (Dc.cl d (.slice a n cap) (.slice sa m scap)) ?_) | (refine wlb w.heap.size (Dc.cl d (.slice a n cap) (.slice sa m scap)) ?_)))
  go_ret
  exact ⟨ret_bool HB.out, by exact bl⟩
theorem implModeOk_any (d : Dc) (a : Option Addr) (cap n : Nat) (xs : List Shp) (sa : Option Addr) (scap m : Nat) (ls : List Lvl) (w : World) (h : Shs w a xs) (h' : Lvls w sa ls) (hx : xs.length = n) (hl : ls.length = m) (hn : n ≤ 1048576) (hm : fldSum xs ≤ 1048576) (hm' : m ≤ 1048576) (h2 : inB d.mode 1 9 = true) (h6 : wireOk d.wire = true) :
  Calls Tryz.prog 105 #[d.val (.slice a n cap) (.slice sa m scap)] w fun r w' => r = .returned (.bool (wantOk d ls && kindOk d)) ∧ Below w.heap.size w w' := by
 rcases nine_modes h2 with hM | hM | hM | hM | hM | hM | hM | hM | hM
 ·exact implModeOk_m1 d a cap n xs sa scap m ls w h h' hx hl hn hm hm' h6 hM _ rfl
 ·exact implModeOk_m2 d a cap n xs sa scap m ls w h h' hx hl hn hm hm' h6 hM _ rfl
 ·exact implModeOk_m3 d a cap n xs sa scap m ls w h h' hx hl hn hm hm' h6 hM _ rfl
 ·exact implModeOk_m4 d a cap n xs sa scap m ls w h h' hx hl hn hm hm' h6 hM _ rfl
 ·exact implModeOk_m5 d a cap n xs sa scap m ls w h h' hx hl hn hm hm' h6 hM _ rfl
 ·exact implModeOk_m6 d a cap n xs sa scap m ls w h h' hx hl hn hm hm' h6 hM _ rfl
 ·exact implModeOk_m7 d a cap n xs sa scap m ls w h h' hx hl hn hm hm' h6 hM _ rfl
 ·exact implModeOk_m8 d a cap n xs sa scap m ls w h h' hx hl hn hm hm' h6 hM _ rfl
 ·exact implModeOk_m9 d a cap n xs sa scap m ls w h h' hx hl hn hm hm' h6 hM _ rfl
end Go.Proofs.YtabdjimjelfbfaaGreat

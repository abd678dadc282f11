/- Texts that FnSettle leans on, part 11. (Put together by wip/tools/bundle.py.) -/
import Derived.Test.YtabdjimjelfbfaaGreatSettle1
import Derived.Test.YtabdjimjelfbfaaGreatSettle2
import Derived.Test.YtabdjimjelfbfaaGreatSettle3
import Derived.Test.YtabdjimjelfbfaaGreatSettle4
import Derived.Test.YtabdjimjelfbfaaGreatSettle5
import Derived.Test.YtabdjimjelfbfaaGreatSettle6
import Derived.Test.YtabdjimjelfbfaaGreatSettle7
import Derived.Test.YtabdjimjelfbfaaGreatSettle8
import Derived.Test.YtabdjimjelfbfaaGreatSettle9
import Derived.Test.YtabdjimjelfbfaaGreatSettle10
namespace Go.Proofs.YtabdjimjelfbfaaGreat
set_option linter.unusedSimpArgs false
set_option linter.unusedVariables false
open Go.ChangeShapes Go.WideShapes Go.ChangeAt Go.RowKit Go.BigFrame
set_option maxRecDepth 100000 in
set_option maxHeartbeats 8000000 in
theorem specDecOk_m6 (d : Dc) (a : Option Addr) (cap n : Nat) (xs : List Shp) (sa : Option Addr) (scap m : Nat) (ls : List Lvl) (w : World) (h : Shs w a xs) (h' : Lvls w sa ls) (hx : xs.length = n) (hl : ls.length = m) (hn : n ≤ 1048576) (hm : fldSum xs ≤ 1048576) (hm' : m ≤ 1048576) (h1 : planOk d.p xs = true) (h2 : inB d.mode 1 9 = true) (h3 : inB d.at_ 0 1000000000 = true) (h4 : inB d.start 0 d.at_ = true) (h5 : utfOk d.utf = true) (h6 : wireOk d.wire = true) (h7 : fieldIn d.field xs = true) (h8 : stackOk d n ls = true) (hM : d.mode = 6) (R : Bool) (hT : (endOk d && (wantOk d ls && (kindOk d && scanD d ls))) = R) :
  Calls Tryz.prog 30 #[d.val (.slice a n cap) (.slice sa m scap)] w fun r w' => r = .returned (.bool R) ∧ Below w.heap.size w w' := by
 have HL := Lib.hid hl; clear hl
 have HX := Lib.hid hx; clear hx
 have HSs := Lib.hid h; clear h
 have HSl := Lib.hid h'; clear h'
 have HT := Lib.hid hT; clear hT
 have HM0 := Lib.hid hM; clear hM
 have hxn : xs.length = n := HX.out
 have hne1 := run_neq_ev
 have hne2 := run_neq_fld
 go_enter Tryz.func30, Tryz.ntmps30
 go_wp2_with fail
 refine (specPlanOk_any a cap n d.p xs _ (HSs.out.keep bl) HX.out hn hm).mono ?_
 rintro r w1 ⟨rfl, hb1⟩
 have hz1 := hb1.size
 try simp only [World.size_alloc, World.size_setCell, World.size_drew] at hz1
 have hb1b : Below w.heap.size w w1 := by exact bl
 have kA := box_new0 hb1
 have hBA := box_lt0 hb1
 try simp only [World.size_alloc, World.size_setCell, World.size_drew] at kA
 try simp only [World.size_alloc, World.size_setCell, World.size_drew] at hBA
 clear hb1; have hb1 := hb1b; clear hb1b
 rw [h1]
 go_wp2_with (first | ((with_reducible show wpList _ _ _ (⟨_, Op.load 40 _, _, _, _, _⟩ :: _) _ _); first | (refine wla w.heap.size (Dc.cl d (.slice a n cap) (.slice sa m scap)) ?_) | (refine wlb w.heap.size (Dc.cl d (.slice a n cap) (.slice sa m scap)) ?_)))
 refine (l1In_any _ _ _ _).mono ?_
 rintro r wx2 ⟨rfl, rfl⟩
 rw [h2]
 go_wp2_with (first | ((with_reducible show wpList _ _ _ (⟨_, Op.load 40 _, _, _, _, _⟩ :: _) _ _); first | (refine wla w.heap.size (Dc.cl d (.slice a n cap) (.slice sa m scap)) ?_) | (refine wlb w.heap.size (Dc.cl d (.slice a n cap) (.slice sa m scap)) ?_)))
 refine (l1In_any _ _ _ _).mono ?_
 rintro r wx3 ⟨rfl, rfl⟩
 rw [h3]
 go_wp2_with (first | ((with_reducible show wpList _ _ _ (⟨_, Op.load 40 _, _, _, _, _⟩ :: _) _ _); first | (refine wla w.heap.size (Dc.cl d (.slice a n cap) (.slice sa m scap)) ?_) | (refine wlb w.heap.size (Dc.cl d (.slice a n cap) (.slice sa m scap)) ?_)))
 refine (l1In_any _ _ _ _).mono ?_
 rintro r wx4 ⟨rfl, rfl⟩
 rw [h4]
 go_wp2_with (first | ((with_reducible show wpList _ _ _ (⟨_, Op.load 40 _, _, _, _, _⟩ :: _) _ _); first | (refine wla w.heap.size (Dc.cl d (.slice a n cap) (.slice sa m scap)) ?_) | (refine wlb w.heap.size (Dc.cl d (.slice a n cap) (.slice sa m scap)) ?_)))
 refine (specUtfOk_any d.utf _).mono ?_
 rintro r w5 ⟨rfl, hb5⟩
 have hz5 := hb5.size
 try simp only [World.size_alloc, World.size_setCell, World.size_drew] at hz5
 have hb5b : Below w1.heap.size w1 w5 := by exact bl
 have kA_ := box_next hb5b hBA kA; clear kA
 have kA := kA_; clear kA_
 have hBA_ := Nat.lt_of_lt_of_le hBA hb5b.size; clear hBA; have hBA := hBA_; clear hBA_
 clear hb5; have hb5 := hb5b; clear hb5b
 rw [h5]
 go_wp2_with (first | ((with_reducible show wpList _ _ _ (⟨_, Op.load 40 _, _, _, _, _⟩ :: _) _ _); first | (refine wla w.heap.size (Dc.cl d (.slice a n cap) (.slice sa m scap)) ?_) | (refine wlb w.heap.size (Dc.cl d (.slice a n cap) (.slice sa m scap)) ?_)))
 refine (specWireOk_any _ _).mono ?_
 rintro r wx6 ⟨rfl, rfl⟩
 rw [h6]
 go_wp2_with (first | ((with_reducible show wpList _ _ _ (⟨_, Op.load 40 _, _, _, _, _⟩ :: _) _ _); first | (refine wla w.heap.size (Dc.cl d (.slice a n cap) (.slice sa m scap)) ?_) | (refine wlb w.heap.size (Dc.cl d (.slice a n cap) (.slice sa m scap)) ?_)))
 refine (specFieldOk_any d a cap n xs sa scap m ls _ (HSs.out.keep bl) (Sl.keep HSl.out bl) HX.out HL.out hn hm hm').mono ?_
 rintro r w7 ⟨rfl, hb7⟩
 have hz7 := hb7.size
 try simp only [World.size_alloc, World.size_setCell, World.size_drew] at hz7
 have hb7b : Below w5.heap.size w5 w7 := by exact bl
 have kA_ := box_next hb7b hBA kA; clear kA
 have kA := kA_; clear kA_
 have hBA_ := Nat.lt_of_lt_of_le hBA hb7b.size; clear hBA; have hBA := hBA_; clear hBA_
 clear hb7; have hb7 := hb7b; clear hb7b
 rw [h7]
 go_wp2_with (first | ((with_reducible show wpList _ _ _ (⟨_, Op.load 40 _, _, _, _, _⟩ :: _) _ _); first | (refine wla w.heap.size (Dc.cl d (.slice a n cap) (.slice sa m scap)) ?_) | (refine wlb w.heap.size (Dc.cl d (.slice a n cap) (.slice sa m scap)) ?_)))
 refine (specStackOk_any d a cap n xs sa scap m ls _ (HSs.out.keep bl) (Sl.keep HSl.out bl) HX.out HL.out hn hm hm').mono ?_
 rintro r w8 ⟨rfl, hb8⟩
 have hz8 := hb8.size
 try simp only [World.size_alloc, World.size_setCell, World.size_drew] at hz8
 have hb8b : Below w7.heap.size w7 w8 := by exact bl
 have kA_ := box_next hb8b hBA kA; clear kA
 have kA := kA_; clear kA_
 have hBA_ := Nat.lt_of_lt_of_le hBA hb8b.size; clear hBA; have hBA := hBA_; clear hBA_
 clear hb8; have hb8 := hb8b; clear hb8b
 rw [h8]
 have hM := HM0.out
 have e1 : (d.mode == 1) = false := by simp [hM]
 have e2 : (d.mode == 2) = false := by simp [hM]
 have e3 : (d.mode == 3) = false := by simp [hM]
 have e4 : (d.mode == 4) = false := by simp [hM]
 have e5 : (d.mode == 5) = false := by simp [hM]
 have e6 : (d.mode == 6) = true := by simp [hM]
 have e7 : (d.mode == 7) = false := by simp [hM]
 have e8 : (d.mode == 8) = false := by simp [hM]
 have e9 : (d.mode == 9) = false := by simp [hM]
 have b1 : (d.mode != 1) = true := by simp [hM]
 have b2 : (d.mode != 2) = true := by simp [hM]
 have b3 : (d.mode != 3) = true := by simp [hM]
 have b4 : (d.mode != 4) = true := by simp [hM]
 have b5 : (d.mode != 5) = true := by simp [hM]
 have b6 : (d.mode != 6) = false := by simp [hM]
 have b7 : (d.mode != 7) = true := by simp [hM]
 have b8 : (d.mode != 8) = true := by simp [hM]
 have b9 : (d.mode != 9) = true := by simp [hM]
 have i35 : inB d.mode 3 5 = false := by rw [hM]; rfl
 have hE0 : endOk d = sameEv ⟨d.end_.kind, d.end_.field, d.end_.bits, d.end_.len, d.end_.text, d.end_.code, d.end_.at_⟩ ⟨0, 0, 0, 0, ⟨#[]⟩, 0, 0⟩ := by simp only [endOk, hM]; rfl
 have hW0 : wantOk d ls = inB d.want 1 (topL ls) := by simp only [wantOk, hM]; rfl
 have hK0 : kindOk d = (d.field.kind == 6 || d.field.kind == 7) := by simp only [kindOk, hM]; rfl
 rw [hE0, hW0, hK0] at HT
 clear hM hE0 hW0 hK0
 cases g1 : sameEv ⟨d.end_.kind, d.end_.field, d.end_.bits, d.end_.len, d.end_.text, d.end_.code, d.end_.at_⟩ ⟨0, 0, 0, 0, ⟨#[]⟩, 0, 0⟩
 ·skip
  have HB := Lib.hid (show false = R by rw [← HT.out]; simp only [g1, Bool.and_false, Bool.false_and, Bool.true_and, Bool.and_true, Bool.not_true, Bool.not_false, Bool.or_true, Bool.true_or, Bool.or_false, Bool.false_or])
  clear HT
  go_wp2_with (first | (go_at_call 51; refine (l1In_any _ _ _ _).mono ?_; rintro r wx ⟨rfl, rfl⟩; (try rw [i35])) | (go_at_call 63; refine (specWidthOf_any _ _).mono ?_; rintro r wx ⟨rfl, rfl⟩) | ((with_reducible show wpList _ _ _ (⟨_, Op.load 40 _, _, _, _, _⟩ :: _) _ _); first | (refine wla w.heap.size (Dc.cl d (.slice a n cap) (.slice sa m scap)) ?_) | (refine wlb w.heap.size (Dc.cl d (.slice a n cap) (.slice sa m scap)) ?_)))
  go_ret
  exact ⟨ret_bool HB.out, by exact bl⟩
 ·skip
  have HSQ := Lib.hid (show Shs w8 a xs from HSs.out.keep bl)
  have HLQ := Lib.hid (show Lvls w8 sa ls from Sl.keep HSl.out bl)
  cases g3 : inB d.want 1 (topL ls)
  ·skip
   go_wp2_with fail
   refine wp_region_ext (by kernel_rfl) (by kernel_rfl) ?_
   repeat (first | (refine wpQuiet_load_mid 40 _ rfl rfl w.heap.size 0 rfl (Dc.cl d (.slice a n cap) (.slice sa m scap)) _ (range_of_cells kA) hBA Tryz.underlying40 rfl size_Dec ?_; try simp only [Act.put, List.setIfInBounds_toArray, List.set_cons_zero, List.set_cons_succ]) | go_big_quiet_step (first | (go_at_call 73; refine Calls.ext_of (specTop_any d a cap n xs sa scap m ls _ (Shs.keep HSQ.out (World.ext_below _ _)) (Sl.keep HLQ.out (World.ext_below _ _)) HX.out HL.out hn hm hm')) | (go_at_call 51; refine Calls.ext_of_same (l1In_any _ _ _ _))))
   refine wpQuiet_nil ?_
   intro w30 hb30
   have hz30 := hb30.size
   have kA_ := box_next (hb30.mono (Nat.le_refl _)) hBA kA; clear kA; have kA := kA_; clear kA_
   have hBA_ := Nat.lt_of_lt_of_le hBA hb30.size; clear hBA; have hBA := hBA_; clear hBA_
   have HB := Lib.hid (show false = R by rw [← HT.out]; simp only [g1, g3, Bool.and_false, Bool.false_and, Bool.true_and, Bool.and_true, Bool.not_true, Bool.not_false, Bool.or_true, Bool.true_or, Bool.or_false, Bool.false_or])
   clear HT
   go_wp2_with (first | (go_at_call 51; refine (l1In_any _ _ _ _).mono ?_; rintro r wx ⟨rfl, rfl⟩; (try rw [i35])) | (go_at_call 63; refine (specWidthOf_any _ _).mono ?_; rintro r wx ⟨rfl, rfl⟩) | ((with_reducible show wpList _ _ _ (⟨_, Op.load 40 _, _, _, _, _⟩ :: _) _ _); first | (refine wla w.heap.size (Dc.cl d (.slice a n cap) (.slice sa m scap)) ?_) | (refine wlb w.heap.size (Dc.cl d (.slice a n cap) (.slice sa m scap)) ?_)))
   go_ret
   exact ⟨ret_bool HB.out, by exact bl⟩
  ·skip
   go_wp2_with fail
   refine wp_region_ext (by kernel_rfl) (by kernel_rfl) ?_
   repeat (first | (refine wpQuiet_load_mid 40 _ rfl rfl w.heap.size 0 rfl (Dc.cl d (.slice a n cap) (.slice sa m scap)) _ (range_of_cells kA) hBA Tryz.underlying40 rfl size_Dec ?_; try simp only [Act.put, List.setIfInBounds_toArray, List.set_cons_zero, List.set_cons_succ]) | go_big_quiet_step (first | (go_at_call 73; refine Calls.ext_of (specTop_any d a cap n xs sa scap m ls _ (Shs.keep HSQ.out (World.ext_below _ _)) (Sl.keep HLQ.out (World.ext_below _ _)) HX.out HL.out hn hm hm')) | (go_at_call 51; refine Calls.ext_of_same (l1In_any _ _ _ _))))
   refine wpQuiet_nil ?_
   intro w30 hb30
   have hz30 := hb30.size
   have kA_ := box_next (hb30.mono (Nat.le_refl _)) hBA kA; clear kA; have kA := kA_; clear kA_
   have hBA_ := Nat.lt_of_lt_of_le hBA hb30.size; clear hBA; have hBA := hBA_; clear hBA_
   cases g6 : (d.field.kind == 6)
   ·skip
    cases g7 : (d.field.kind == 7)
    ·skip
     have HB := Lib.hid (show false = R by rw [← HT.out]; simp only [g1, g3, g6, g7, Bool.and_false, Bool.false_and, Bool.true_and, Bool.and_true, Bool.not_true, Bool.not_false, Bool.or_true, Bool.true_or, Bool.or_false, Bool.false_or])
     clear HT
     go_wp2_with (first | (go_at_call 51; refine (l1In_any _ _ _ _).mono ?_; rintro r wx ⟨rfl, rfl⟩; (try rw [i35])) | (go_at_call 63; refine (specWidthOf_any _ _).mono ?_; rintro r wx ⟨rfl, rfl⟩) | ((with_reducible show wpList _ _ _ (⟨_, Op.load 40 _, _, _, _, _⟩ :: _) _ _); first | (refine wla w.heap.size (Dc.cl d (.slice a n cap) (.slice sa m scap)) ?_) | (refine wlb w.heap.size (Dc.cl d (.slice a n cap) (.slice sa m scap)) ?_)))
     go_ret
     exact ⟨ret_bool HB.out, by exact bl⟩
    ·skip
     go_wp2_with (first | (go_at_call 51; refine (l1In_any _ _ _ _).mono ?_; rintro r wx ⟨rfl, rfl⟩; (try rw [i35])) | (go_at_call 63; refine (specWidthOf_any _ _).mono ?_; rintro r wx ⟨rfl, rfl⟩) | ((with_reducible show wpList _ _ _ (⟨_, Op.load 40 _, _, _, _, _⟩ :: _) _ _); first | (refine wla w.heap.size (Dc.cl d (.slice a n cap) (.slice sa m scap)) ?_) | (refine wlb w.heap.size (Dc.cl d (.slice a n cap) (.slice sa m scap)) ?_)))
     all_goals
      refine (specScanD_any d a cap n xs sa scap m ls _ (HSs.out.keep bl) (Sl.keep HSl.out bl) HX.out HL.out hn hm hm').mono ?_
      rintro r w40 ⟨rfl, hb40⟩
      have HB := Lib.hid (show scanD d ls = R by rw [← HT.out]; simp only [g1, g3, g6, g7, Bool.and_false, Bool.false_and, Bool.true_and, Bool.and_true, Bool.not_true, Bool.not_false, Bool.or_true, Bool.true_or, Bool.or_false, Bool.false_or])
      clear HT
      rw [HB.out]
      go_wp2
      go_ret
      exact ⟨rfl, by exact bl⟩
   ·skip
    go_wp2_with (first | (go_at_call 51; refine (l1In_any _ _ _ _).mono ?_; rintro r wx ⟨rfl, rfl⟩; (try rw [i35])) | (go_at_call 63; refine (specWidthOf_any _ _).mono ?_; rintro r wx ⟨rfl, rfl⟩) | ((with_reducible show wpList _ _ _ (⟨_, Op.load 40 _, _, _, _, _⟩ :: _) _ _); first | (refine wla w.heap.size (Dc.cl d (.slice a n cap) (.slice sa m scap)) ?_) | (refine wlb w.heap.size (Dc.cl d (.slice a n cap) (.slice sa m scap)) ?_)))
    all_goals
     refine (specScanD_any d a cap n xs sa scap m ls _ (HSs.out.keep bl) (Sl.keep HSl.out bl) HX.out HL.out hn hm hm').mono ?_
     rintro r w40 ⟨rfl, hb40⟩
     have HB := Lib.hid (show scanD d ls = R by rw [← HT.out]; simp only [g1, g3, g6, Bool.and_false, Bool.false_and, Bool.true_and, Bool.and_true, Bool.not_true, Bool.not_false, Bool.or_true, Bool.true_or, Bool.or_false, Bool.false_or])
     clear HT
     rw [HB.out]
     go_wp2
     go_ret
     exact ⟨rfl, by exact bl⟩
set_option maxRecDepth 100000 in
set_option maxHeartbeats 8000000 in
theorem specDecOk_m7 (d : Dc) (a : Option Addr) (cap n : Nat) (xs : List Shp) (sa : Option Addr) (scap m : Nat) (ls : List Lvl) (w : World) (h : Shs w a xs) (h' : Lvls w sa ls) (hx : xs.length = n) (hl : ls.length = m) (hn : n ≤ 1048576) (hm : fldSum xs ≤ 1048576) (hm' : m ≤ 1048576) (h1 : planOk d.p xs = true) (h2 : inB d.mode 1 9 = true) (h3 : inB d.at_ 0 1000000000 = true) (h4 : inB d.start 0 d.at_ = true) (h5 : utfOk d.utf = true) (h6 : wireOk d.wire = true) (h7 : fieldIn d.field xs = true) (h8 : stackOk d n ls = true) (hM : d.mode = 7) (R : Bool) (hT : (endOk d && (wantOk d ls && (kindOk d && scanD d ls))) = R) :
  Calls Tryz.prog 30 #[d.val (.slice a n cap) (.slice sa m scap)] w fun r w' => r = .returned (.bool R) ∧ Below w.heap.size w w' := by
 have HL := Lib.hid hl; clear hl
 have HX := Lib.hid hx; clear hx
 have HSs := Lib.hid h; clear h
 have HSl := Lib.hid h'; clear h'
 have HT := Lib.hid hT; clear hT
 have HM0 := Lib.hid hM; clear hM
 have hxn : xs.length = n := HX.out
 have hne1 := run_neq_ev
 have hne2 := run_neq_fld
 go_enter Tryz.func30, Tryz.ntmps30
 go_wp2_with fail
 refine (specPlanOk_any a cap n d.p xs _ (HSs.out.keep bl) HX.out hn hm).mono ?_
 rintro r w1 ⟨rfl, hb1⟩
 have hz1 := hb1.size
 try simp only [World.size_alloc, World.size_setCell, World.size_drew] at hz1
 have hb1b : Below w.heap.size w w1 := by exact bl
 have kA := box_new0 hb1
 have hBA := box_lt0 hb1
 try simp only [World.size_alloc, World.size_setCell, World.size_drew] at kA
 try simp only [World.size_alloc, World.size_setCell, World.size_drew] at hBA
 clear hb1; have hb1 := hb1b; clear hb1b
 rw [h1]
 go_wp2_with (first | ((with_reducible show wpList _ _ _ (⟨_, Op.load 40 _, _, _, _, _⟩ :: _) _ _); first | (refine wla w.heap.size (Dc.cl d (.slice a n cap) (.slice sa m scap)) ?_) | (refine wlb w.heap.size (Dc.cl d (.slice a n cap) (.slice sa m scap)) ?_)))
 refine (l1In_any _ _ _ _).mono ?_
 rintro r wx2 ⟨rfl, rfl⟩
 rw [h2]
 go_wp2_with (first | ((with_reducible show wpList _ _ _ (⟨_, Op.load 40 _, _, _, _, _⟩ :: _) _ _); first | (refine wla w.heap.size (Dc.cl d (.slice a n cap) (.slice sa m scap)) ?_) | (refine wlb w.heap.size (Dc.cl d (.slice a n cap) (.slice sa m scap)) ?_)))
 refine (l1In_any _ _ _ _).mono ?_
 rintro r wx3 ⟨rfl, rfl⟩
 rw [h3]
 go_wp2_with (first | ((with_reducible show wpList _ _ _ (⟨_, Op.load 40 _, _, _, _, _⟩ :: _) _ _); first | (refine wla w.heap.size (Dc.cl d (.slice a n cap) (.slice sa m scap)) ?_) | (refine wlb w.heap.size (Dc.cl d (.slice a n cap) (.slice sa m scap)) ?_)))
 refine (l1In_any _ _ _ _).mono ?_
 rintro r wx4 ⟨rfl, rfl⟩
 rw [h4]
 go_wp2_with (first | ((with_reducible show wpList _ _ _ (⟨_, Op.load 40 _, _, _, _, _⟩ :: _) _ _); first | (refine wla w.heap.size (Dc.cl d (.slice a n cap) (.slice sa m scap)) ?_) | (refine wlb w.heap.size (Dc.cl d (.slice a n cap) (.slice sa m scap)) ?_)))
 refine (specUtfOk_any d.utf _).mono ?_
 rintro r w5 ⟨rfl, hb5⟩
 have hz5 := hb5.size
 try simp only [World.size_alloc, World.size_setCell, World.size_drew] at hz5
 have hb5b : Below w1.heap.size w1 w5 := by exact bl
 have kA_ := box_next hb5b hBA kA; clear kA
 have kA := kA_; clear kA_
 have hBA_ := Nat.lt_of_lt_of_le hBA hb5b.size; clear hBA; have hBA := hBA_; clear hBA_
 clear hb5; have hb5 := hb5b; clear hb5b
 rw [h5]
 go_wp2_with (first | ((with_reducible show wpList _ _ _ (⟨_, Op.load 40 _, _, _, _, _⟩ :: _) _ _); first | (refine wla w.heap.size (Dc.cl d (.slice a n cap) (.slice sa m scap)) ?_) | (refine wlb w.heap.size (Dc.cl d (.slice a n cap) (.slice sa m scap)) ?_)))
 refine (specWireOk_any _ _).mono ?_
 rintro r wx6 ⟨rfl, rfl⟩
 rw [h6]
 go_wp2_with (first | ((with_reducible show wpList _ _ _ (⟨_, Op.load 40 _, _, _, _, _⟩ :: _) _ _); first | (refine wla w.heap.size (Dc.cl d (.slice a n cap) (.slice sa m scap)) ?_) | (refine wlb w.heap.size (Dc.cl d (.slice a n cap) (.slice sa m scap)) ?_)))
 refine (specFieldOk_any d a cap n xs sa scap m ls _ (HSs.out.keep bl) (Sl.keep HSl.out bl) HX.out HL.out hn hm hm').mono ?_
 rintro r w7 ⟨rfl, hb7⟩
 have hz7 := hb7.size
 try simp only [World.size_alloc, World.size_setCell, World.size_drew] at hz7
 have hb7b : Below w5.heap.size w5 w7 := by exact bl
 have kA_ := box_next hb7b hBA kA; clear kA
 have kA := kA_; clear kA_
 have hBA_ := Nat.lt_of_lt_of_le hBA hb7b.size; clear hBA; have hBA := hBA_; clear hBA_
 clear hb7; have hb7 := hb7b; clear hb7b
 rw [h7]
 go_wp2_with (first | ((with_reducible show wpList _ _ _ (⟨_, Op.load 40 _, _, _, _, _⟩ :: _) _ _); first | (refine wla w.heap.size (Dc.cl d (.slice a n cap) (.slice sa m scap)) ?_) | (refine wlb w.heap.size (Dc.cl d (.slice a n cap) (.slice sa m scap)) ?_)))
 refine (specStackOk_any d a cap n xs sa scap m ls _ (HSs.out.keep bl) (Sl.keep HSl.out bl) HX.out HL.out hn hm hm').mono ?_
 rintro r w8 ⟨rfl, hb8⟩
 have hz8 := hb8.size
 try simp only [World.size_alloc, World.size_setCell, World.size_drew] at hz8
 have hb8b : Below w7.heap.size w7 w8 := by exact bl
 have kA_ := box_next hb8b hBA kA; clear kA
 have kA := kA_; clear kA_
 have hBA_ := Nat.lt_of_lt_of_le hBA hb8b.size; clear hBA; have hBA := hBA_; clear hBA_
 clear hb8; have hb8 := hb8b; clear hb8b
 rw [h8]
 have hM := HM0.out
 have e1 : (d.mode == 1) = false := by simp [hM]
 have e2 : (d.mode == 2) = false := by simp [hM]
 have e3 : (d.mode == 3) = false := by simp [hM]
 have e4 : (d.mode == 4) = false := by simp [hM]
 have e5 : (d.mode == 5) = false := by simp [hM]
 have e6 : (d.mode == 6) = false := by simp [hM]
 have e7 : (d.mode == 7) = true := by simp [hM]
 have e8 : (d.mode == 8) = false := by simp [hM]
 have e9 : (d.mode == 9) = false := by simp [hM]
 have b1 : (d.mode != 1) = true := by simp [hM]
 have b2 : (d.mode != 2) = true := by simp [hM]
 have b3 : (d.mode != 3) = true := by simp [hM]
 have b4 : (d.mode != 4) = true := by simp [hM]
 have b5 : (d.mode != 5) = true := by simp [hM]
 have b6 : (d.mode != 6) = true := by simp [hM]
 have b7 : (d.mode != 7) = false := by simp [hM]
 have b8 : (d.mode != 8) = true := by simp [hM]
 have b9 : (d.mode != 9) = true := by simp [hM]
 have i35 : inB d.mode 3 5 = false := by rw [hM]; rfl
 have hE0 : endOk d = sameEv ⟨d.end_.kind, d.end_.field, d.end_.bits, d.end_.len, d.end_.text, d.end_.code, d.end_.at_⟩ ⟨0, 0, 0, 0, ⟨#[]⟩, 0, 0⟩ := by simp only [endOk, hM]; rfl
 have hW0 : wantOk d ls = inB d.want 1 (topL ls) := by simp only [wantOk, hM]; rfl
 have hK0 : kindOk d = true := by simp only [kindOk, hM]; rfl
 rw [hE0, hW0, hK0] at HT
 clear hM hE0 hW0 hK0
 cases g1 : sameEv ⟨d.end_.kind, d.end_.field, d.end_.bits, d.end_.len, d.end_.text, d.end_.code, d.end_.at_⟩ ⟨0, 0, 0, 0, ⟨#[]⟩, 0, 0⟩
 ·skip
  have HB := Lib.hid (show false = R by rw [← HT.out]; simp only [g1, Bool.and_false, Bool.false_and, Bool.true_and, Bool.and_true, Bool.not_true, Bool.not_false, Bool.or_true, Bool.true_or, Bool.or_false, Bool.false_or])
  clear HT
  go_wp2_with (first | (go_at_call 51; refine (l1In_any _ _ _ _).mono ?_; rintro r wx ⟨rfl, rfl⟩; (try rw [i35])) | (go_at_call 63; refine (specWidthOf_any _ _).mono ?_; rintro r wx ⟨rfl, rfl⟩) | ((with_reducible show wpList _ _ _ (⟨_, Op.load 40 _, _, _, _, _⟩ :: _) _ _); first | (refine wla w.heap.size (Dc.cl d (.slice a n cap) (.slice sa m scap)) ?_) | (refine wlb w.heap.size (Dc.cl d (.slice a n cap) (.slice sa m scap)) ?_)))
  go_ret
  exact ⟨ret_bool HB.out, by exact bl⟩
 ·skip
  have HSQ := Lib.hid (show Shs w8 a xs from HSs.out.keep bl)
  have HLQ := Lib.hid (show Lvls w8 sa ls from Sl.keep HSl.out bl)
  cases g3 : inB d.want 1 (topL ls)
  ·skip
   go_wp2_with fail
   refine wp_region_ext (by kernel_rfl) (by kernel_rfl) ?_
   repeat (first | (refine wpQuiet_load_mid 40 _ rfl rfl w.heap.size 0 rfl (Dc.cl d (.slice a n cap) (.slice sa m scap)) _ (range_of_cells kA) hBA Tryz.underlying40 rfl size_Dec ?_; try simp only [Act.put, List.setIfInBounds_toArray, List.set_cons_zero, List.set_cons_succ]) | go_big_quiet_step (first | (go_at_call 73; refine Calls.ext_of (specTop_any d a cap n xs sa scap m ls _ (Shs.keep HSQ.out (World.ext_below _ _)) (Sl.keep HLQ.out (World.ext_below _ _)) HX.out HL.out hn hm hm')) | (go_at_call 51; refine Calls.ext_of_same (l1In_any _ _ _ _))))
   refine wpQuiet_nil ?_
   intro w30 hb30
   have hz30 := hb30.size
   have kA_ := box_next (hb30.mono (Nat.le_refl _)) hBA kA; clear kA; have kA := kA_; clear kA_
   have hBA_ := Nat.lt_of_lt_of_le hBA hb30.size; clear hBA; have hBA := hBA_; clear hBA_
   have HB := Lib.hid (show false = R by rw [← HT.out]; simp only [g1, g3, Bool.and_false, Bool.false_and, Bool.true_and, Bool.and_true, Bool.not_true, Bool.not_false, Bool.or_true, Bool.true_or, Bool.or_false, Bool.false_or])
   clear HT
   go_wp2_with (first | (go_at_call 51; refine (l1In_any _ _ _ _).mono ?_; rintro r wx ⟨rfl, rfl⟩; (try rw [i35])) | (go_at_call 63; refine (specWidthOf_any _ _).mono ?_; rintro r wx ⟨rfl, rfl⟩) | ((with_reducible show wpList _ _ _ (⟨_, Op.load 40 _, _, _, _, _⟩ :: _) _ _); first | (refine wla w.heap.size (Dc.cl d (.slice a n cap) (.slice sa m scap)) ?_) | (refine wlb w.heap.size (Dc.cl d (.slice a n cap) (.slice sa m scap)) ?_)))
   go_ret
   exact ⟨ret_bool HB.out, by exact bl⟩
  ·skip
   go_wp2_with fail
   refine wp_region_ext (by kernel_rfl) (by kernel_rfl) ?_
   repeat (first | (refine wpQuiet_load_mid 40 _ rfl rfl w.heap.size 0 rfl (Dc.cl d (.slice a n cap) (.slice sa m scap)) _ (range_of_cells kA) hBA Tryz.underlying40 rfl size_Dec ?_; try simp only [Act.put, List.setIfInBounds_toArray, List.set_cons_zero, List.set_cons_succ]) | go_big_quiet_step (first | (go_at_call 73; refine Calls.ext_of (specTop_any d a cap n xs sa scap m ls _ (Shs.keep HSQ.out (World.ext_below _ _)) (Sl.keep HLQ.out (World.ext_below _ _)) HX.out HL.out hn hm hm')) | (go_at_call 51; refine Calls.ext_of_same (l1In_any _ _ _ _))))
   refine wpQuiet_nil ?_
   intro w30 hb30
   have hz30 := hb30.size
   have kA_ := box_next (hb30.mono (Nat.le_refl _)) hBA kA; clear kA; have kA := kA_; clear kA_
   have hBA_ := Nat.lt_of_lt_of_le hBA hb30.size; clear hBA; have hBA := hBA_; clear hBA_
   cases t6 : (d.field.kind == 6)
   all_goals
    go_wp2_with (first | (go_at_call 51; refine (l1In_any _ _ _ _).mono ?_; rintro r wx ⟨rfl, rfl⟩; (try rw [i35])) | (go_at_call 63; refine (specWidthOf_any _ _).mono ?_; rintro r wx ⟨rfl, rfl⟩) | ((with_reducible show wpList _ _ _ (⟨_, Op.load 40 _, _, _, _, _⟩ :: _) _ _); first | (refine wla w.heap.size (Dc.cl d (.slice a n cap) (.slice sa m scap)) ?_) | (refine wlb w.heap.size (Dc.cl d (.slice a n cap) (.slice sa m scap)) ?_)))
    all_goals
     refine (specScanD_any d a cap n xs sa scap m ls _ (HSs.out.keep bl) (Sl.keep HSl.out bl) HX.out HL.out hn hm hm').mono ?_
     rintro r w40 ⟨rfl, hb40⟩
     have HB := Lib.hid (show scanD d ls = R by rw [← HT.out]; simp only [g1, g3, Bool.and_false, Bool.false_and, Bool.true_and, Bool.and_true, Bool.not_true, Bool.not_false, Bool.or_true, Bool.true_or, Bool.or_false, Bool.false_or])
     clear HT
     rw [HB.out]
     go_wp2
     go_ret
     exact ⟨rfl, by exact bl⟩
set_option maxRecDepth 100000 in
set_option maxHeartbeats 8000000 in
theorem specDecOk_m8 (d : Dc) (a : Option Addr) (cap n : Nat) (xs : List Shp) (sa : Option Addr) (scap m : Nat) (ls : List Lvl) (w : World) (h : Shs w a xs) (h' : Lvls w sa ls) (hx : xs.length = n) (hl : ls.length = m) (hn : n ≤ 1048576) (hm : fldSum xs ≤ 1048576) (hm' : m ≤ 1048576) (h1 : planOk d.p xs = true) (h2 : inB d.mode 1 9 = true) (h3 : inB d.at_ 0 1000000000 = true) (h4 : inB d.start 0 d.at_ = true) (h5 : utfOk d.utf = true) (h6 : wireOk d.wire = true) (h7 : fieldIn d.field xs = true) (h8 : stackOk d n ls = true) (hM : d.mode = 8) (R : Bool) (hT : (endOk d && (wantOk d ls && (kindOk d && scanD d ls))) = R) :
  Calls Tryz.prog 30 #[d.val (.slice a n cap) (.slice sa m scap)] w fun r w' => r = .returned (.bool R) ∧ Below w.heap.size w w' := by
 have HL := Lib.hid hl; clear hl
 have HX := Lib.hid hx; clear hx
 have HSs := Lib.hid h; clear h
 have HSl := Lib.hid h'; clear h'
 have HT := Lib.hid hT; clear hT
 have HM0 := Lib.hid hM; clear hM
 have hxn : xs.length = n := HX.out
 have hne1 := run_neq_ev
 have hne2 := run_neq_fld
 go_enter Tryz.func30, Tryz.ntmps30
 go_wp2_with fail
 refine (specPlanOk_any a cap n d.p xs _ (HSs.out.keep bl) HX.out hn hm).mono ?_
 rintro r w1 ⟨rfl, hb1⟩
 have hz1 := hb1.size
 try simp only [World.size_alloc, World.size_setCell, World.size_drew] at hz1
 have hb1b : Below w.heap.size w w1 := by exact bl
 have kA := box_new0 hb1
 have hBA := box_lt0 hb1
 try simp only [World.size_alloc, World.size_setCell, World.size_drew] at kA
 try simp only [World.size_alloc, World.size_setCell, World.size_drew] at hBA
 clear hb1; have hb1 := hb1b; clear hb1b
 rw [h1]
 go_wp2_with (first | ((with_reducible show wpList _ _ _ (⟨_, Op.load 40 _, _, _, _, _⟩ :: _) _ _); first | (refine wla w.heap.size (Dc.cl d (.slice a n cap) (.slice sa m scap)) ?_) | (refine wlb w.heap.size (Dc.cl d (.slice a n cap) (.slice sa m scap)) ?_)))
 refine (l1In_any _ _ _ _).mono ?_
 rintro r wx2 ⟨rfl, rfl⟩
 rw [h2]
 go_wp2_with (first | ((with_reducible show wpList _ _ _ (⟨_, Op.load 40 _, _, _, _, _⟩ :: _) _ _); first | (refine wla w.heap.size (Dc.cl d (.slice a n cap) (.slice sa m scap)) ?_) | (refine wlb w.heap.size (Dc.cl d (.slice a n cap) (.slice sa m scap)) ?_)))
 refine (l1In_any _ _ _ _).mono ?_
 rintro r wx3 ⟨rfl, rfl⟩
 rw [h3]
 go_wp2_with (first | ((with_reducible show wpList _ _ _ (⟨_, Op.load 40 _, _, _, _, _⟩ :: _) _ _); first | (refine wla w.heap.size (Dc.cl d (.slice a n cap) (.slice sa m scap)) ?_) | (refine wlb w.heap.size (Dc.cl d (.slice a n cap) (.slice sa m scap)) ?_)))
 refine (l1In_any _ _ _ _).mono ?_
 rintro r wx4 ⟨rfl, rfl⟩
 rw [h4]
 go_wp2_with (first | ((with_reducible show wpList _ _ _ (⟨_, Op.load 40 _, _, _, _, _⟩ :: _) _ _); first | (refine wla w.heap.size (Dc.cl d (.slice a n cap) (.slice sa m scap)) ?_) | (refine wlb w.heap.size (Dc.cl d (.slice a n cap) (.slice sa m scap)) ?_)))
 refine (specUtfOk_any d.utf _).mono ?_
 rintro r w5 ⟨rfl, hb5⟩
 have hz5 := hb5.size
 try simp only [World.size_alloc, World.size_setCell, World.size_drew] at hz5
 have hb5b : Below w1.heap.size w1 w5 := by exact bl
 have kA_ := box_next hb5b hBA kA; clear kA
 have kA := kA_; clear kA_
 have hBA_ := Nat.lt_of_lt_of_le hBA hb5b.size; clear hBA; have hBA := hBA_; clear hBA_
 clear hb5; have hb5 := hb5b; clear hb5b
 rw [h5]
 go_wp2_with (first | ((with_reducible show wpList _ _ _ (⟨_, Op.load 40 _, _, _, _, _⟩ :: _) _ _); first | (refine wla w.heap.size (Dc.cl d (.slice a n cap) (.slice sa m scap)) ?_) | (refine wlb w.heap.size (Dc.cl d (.slice a n cap) (.slice sa m scap)) ?_)))
 refine (specWireOk_any _ _).mono ?_
 rintro r wx6 ⟨rfl, rfl⟩
 rw [h6]
 go_wp2_with (first | ((with_reducible show wpList _ _ _ (⟨_, Op.load 40 _, _, _, _, _⟩ :: _) _ _); first | (refine wla w.heap.size (Dc.cl d (.slice a n cap) (.slice sa m scap)) ?_) | (refine wlb w.heap.size (Dc.cl d (.slice a n cap) (.slice sa m scap)) ?_)))
 refine (specFieldOk_any d a cap n xs sa scap m ls _ (HSs.out.keep bl) (Sl.keep HSl.out bl) HX.out HL.out hn hm hm').mono ?_
 rintro r w7 ⟨rfl, hb7⟩
 have hz7 := hb7.size
 try simp only [World.size_alloc, World.size_setCell, World.size_drew] at hz7
 have hb7b : Below w5.heap.size w5 w7 := by exact bl
 have kA_ := box_next hb7b hBA kA; clear kA
 have kA := kA_; clear kA_
 have hBA_ := Nat.lt_of_lt_of_le hBA hb7b.size; clear hBA; have hBA := hBA_; clear hBA_
 clear hb7; have hb7 := hb7b; clear hb7b
 rw [h7]
 go_wp2_with (first | ((with_reducible show wpList _ _ _ (⟨_, Op.load 40 _, _, _, _, _⟩ :: _) _ _); first | (refine wla w.heap.size (Dc.cl d (.slice a n cap) (.slice sa m scap)) ?_) | (refine wlb w.heap.size (Dc.cl d (.slice a n cap) (.slice sa m scap)) ?_)))
 refine (specStackOk_any d a cap n xs sa scap m ls _ (HSs.out.keep bl) (Sl.keep HSl.out bl) HX.out HL.out hn hm hm').mono ?_
 rintro r w8 ⟨rfl, hb8⟩
 have hz8 := hb8.size
 try simp only [World.size_alloc, World.size_setCell, World.size_drew] at hz8
 have hb8b : Below w7.heap.size w7 w8 := by exact bl
 have kA_ := box_next hb8b hBA kA; clear kA
 have kA := kA_; clear kA_
 have hBA_ := Nat.lt_of_lt_of_le hBA hb8b.size; clear hBA; have hBA := hBA_; clear hBA_
 clear hb8; have hb8 := hb8b; clear hb8b
 rw [h8]
 have hM := HM0.out
 have e1 : (d.mode == 1) = false := by simp [hM]
 have e2 : (d.mode == 2) = false := by simp [hM]
 have e3 : (d.mode == 3) = false := by simp [hM]
 have e4 : (d.mode == 4) = false := by simp [hM]
 have e5 : (d.mode == 5) = false := by simp [hM]
 have e6 : (d.mode == 6) = false := by simp [hM]
 have e7 : (d.mode == 7) = false := by simp [hM]
 have e8 : (d.mode == 8) = true := by simp [hM]
 have e9 : (d.mode == 9) = false := by simp [hM]
 have b1 : (d.mode != 1) = true := by simp [hM]
 have b2 : (d.mode != 2) = true := by simp [hM]
 have b3 : (d.mode != 3) = true := by simp [hM]
 have b4 : (d.mode != 4) = true := by simp [hM]
 have b5 : (d.mode != 5) = true := by simp [hM]
 have b6 : (d.mode != 6) = true := by simp [hM]
 have b7 : (d.mode != 7) = true := by simp [hM]
 have b8 : (d.mode != 8) = false := by simp [hM]
 have b9 : (d.mode != 9) = true := by simp [hM]
 have i35 : inB d.mode 3 5 = false := by rw [hM]; rfl
 have hE0 : endOk d = sameEv ⟨d.end_.kind, d.end_.field, d.end_.bits, d.end_.len, d.end_.text, d.end_.code, d.end_.at_⟩ ⟨0, 0, 0, 0, ⟨#[]⟩, 0, 0⟩ := by simp only [endOk, hM]; rfl
 have hW0 : wantOk d ls = inB d.want 1 (topL ls) := by simp only [wantOk, hM]; rfl
 have hK0 : kindOk d = runsF d.field := by simp only [kindOk, hM]; rfl
 rw [hE0, hW0, hK0] at HT
 clear hM hE0 hW0 hK0
 cases g1 : sameEv ⟨d.end_.kind, d.end_.field, d.end_.bits, d.end_.len, d.end_.text, d.end_.code, d.end_.at_⟩ ⟨0, 0, 0, 0, ⟨#[]⟩, 0, 0⟩
 ·skip
  have HB := Lib.hid (show false = R by rw [← HT.out]; simp only [g1, Bool.and_false, Bool.false_and, Bool.true_and, Bool.and_true, Bool.not_true, Bool.not_false, Bool.or_true, Bool.true_or, Bool.or_false, Bool.false_or])
  clear HT
  go_wp2_with (first | (go_at_call 51; refine (l1In_any _ _ _ _).mono ?_; rintro r wx ⟨rfl, rfl⟩; (try rw [i35])) | (go_at_call 63; refine (specWidthOf_any _ _).mono ?_; rintro r wx ⟨rfl, rfl⟩) | ((with_reducible show wpList _ _ _ (⟨_, Op.load 40 _, _, _, _, _⟩ :: _) _ _); first | (refine wla w.heap.size (Dc.cl d (.slice a n cap) (.slice sa m scap)) ?_) | (refine wlb w.heap.size (Dc.cl d (.slice a n cap) (.slice sa m scap)) ?_)))
  go_ret
  exact ⟨ret_bool HB.out, by exact bl⟩
 ·skip
  have HSQ := Lib.hid (show Shs w8 a xs from HSs.out.keep bl)
  have HLQ := Lib.hid (show Lvls w8 sa ls from Sl.keep HSl.out bl)
  cases g3 : inB d.want 1 (topL ls)
  ·skip
   go_wp2_with fail
   refine wp_region_ext (by kernel_rfl) (by kernel_rfl) ?_
   repeat (first | (refine wpQuiet_load_mid 40 _ rfl rfl w.heap.size 0 rfl (Dc.cl d (.slice a n cap) (.slice sa m scap)) _ (range_of_cells kA) hBA Tryz.underlying40 rfl size_Dec ?_; try simp only [Act.put, List.setIfInBounds_toArray, List.set_cons_zero, List.set_cons_succ]) | go_big_quiet_step (first | (go_at_call 73; refine Calls.ext_of (specTop_any d a cap n xs sa scap m ls _ (Shs.keep HSQ.out (World.ext_below _ _)) (Sl.keep HLQ.out (World.ext_below _ _)) HX.out HL.out hn hm hm')) | (go_at_call 51; refine Calls.ext_of_same (l1In_any _ _ _ _))))
   refine wpQuiet_nil ?_
   intro w30 hb30
   have hz30 := hb30.size
   have kA_ := box_next (hb30.mono (Nat.le_refl _)) hBA kA; clear kA; have kA := kA_; clear kA_
   have hBA_ := Nat.lt_of_lt_of_le hBA hb30.size; clear hBA; have hBA := hBA_; clear hBA_
   have HB := Lib.hid (show false = R by rw [← HT.out]; simp only [g1, g3, Bool.and_false, Bool.false_and, Bool.true_and, Bool.and_true, Bool.not_true, Bool.not_false, Bool.or_true, Bool.true_or, Bool.or_false, Bool.false_or])
   clear HT
   go_wp2_with (first | (go_at_call 51; refine (l1In_any _ _ _ _).mono ?_; rintro r wx ⟨rfl, rfl⟩; (try rw [i35])) | (go_at_call 63; refine (specWidthOf_any _ _).mono ?_; rintro r wx ⟨rfl, rfl⟩) | ((with_reducible show wpList _ _ _ (⟨_, Op.load 40 _, _, _, _, _⟩ :: _) _ _); first | (refine wla w.heap.size (Dc.cl d (.slice a n cap) (.slice sa m scap)) ?_) | (refine wlb w.heap.size (Dc.cl d (.slice a n cap) (.slice sa m scap)) ?_)))
   go_ret
   exact ⟨ret_bool HB.out, by exact bl⟩
  ·skip
   go_wp2_with fail
   refine wp_region_ext (by kernel_rfl) (by kernel_rfl) ?_
   repeat (first | (refine wpQuiet_load_mid 40 _ rfl rfl w.heap.size 0 rfl (Dc.cl d (.slice a n cap) (.slice sa m scap)) _ (range_of_cells kA) hBA Tryz.underlying40 rfl size_Dec ?_; try simp only [Act.put, List.setIfInBounds_toArray, List.set_cons_zero, List.set_cons_succ]) | go_big_quiet_step (first | (go_at_call 73; refine Calls.ext_of (specTop_any d a cap n xs sa scap m ls _ (Shs.keep HSQ.out (World.ext_below _ _)) (Sl.keep HLQ.out (World.ext_below _ _)) HX.out HL.out hn hm hm')) | (go_at_call 51; refine Calls.ext_of_same (l1In_any _ _ _ _))))
   refine wpQuiet_nil ?_
   intro w30 hb30
   have hz30 := hb30.size
   have kA_ := box_next (hb30.mono (Nat.le_refl _)) hBA kA; clear kA; have kA := kA_; clear kA_
   have hBA_ := Nat.lt_of_lt_of_le hBA hb30.size; clear hBA; have hBA := hBA_; clear hBA_
   cases t6 : (d.field.kind == 6)
   ·skip
    go_wp2_with (first | (go_at_call 51; refine (l1In_any _ _ _ _).mono ?_; rintro r wx ⟨rfl, rfl⟩; (try rw [i35])) | (go_at_call 63; refine (specWidthOf_any _ _).mono ?_; rintro r wx ⟨rfl, rfl⟩) | ((with_reducible show wpList _ _ _ (⟨_, Op.load 40 _, _, _, _, _⟩ :: _) _ _); first | (refine wla w.heap.size (Dc.cl d (.slice a n cap) (.slice sa m scap)) ?_) | (refine wlb w.heap.size (Dc.cl d (.slice a n cap) (.slice sa m scap)) ?_)))
    refine (specRuns_any d.field _).mono ?_
    rintro r w20 ⟨rfl, hb20⟩
    have hz20 := hb20.size
    try simp only [World.size_alloc, World.size_setCell, World.size_drew] at hz20
    have hb20b : Below w30.heap.size w30 w20 := by exact bl
    have kA_ := box_next hb20b hBA kA; clear kA
    have kA := kA_; clear kA_
    have hBA_ := Nat.lt_of_lt_of_le hBA hb20b.size; clear hBA; have hBA := hBA_; clear hBA_
    clear hb20; have hb20 := hb20b; clear hb20b
    cases g8 : runsF d.field
    ·skip
     have HB := Lib.hid (show false = R by rw [← HT.out]; simp only [g1, g3, g8, Bool.and_false, Bool.false_and, Bool.true_and, Bool.and_true, Bool.not_true, Bool.not_false, Bool.or_true, Bool.true_or, Bool.or_false, Bool.false_or])
     clear HT
     go_wp2_with (first | (go_at_call 51; refine (l1In_any _ _ _ _).mono ?_; rintro r wx ⟨rfl, rfl⟩; (try rw [i35])) | (go_at_call 63; refine (specWidthOf_any _ _).mono ?_; rintro r wx ⟨rfl, rfl⟩) | ((with_reducible show wpList _ _ _ (⟨_, Op.load 40 _, _, _, _, _⟩ :: _) _ _); first | (refine wla w.heap.size (Dc.cl d (.slice a n cap) (.slice sa m scap)) ?_) | (refine wlb w.heap.size (Dc.cl d (.slice a n cap) (.slice sa m scap)) ?_)))
     go_ret
     exact ⟨ret_bool HB.out, by exact bl⟩
    ·skip
     go_wp2_with (first | (go_at_call 51; refine (l1In_any _ _ _ _).mono ?_; rintro r wx ⟨rfl, rfl⟩; (try rw [i35])) | (go_at_call 63; refine (specWidthOf_any _ _).mono ?_; rintro r wx ⟨rfl, rfl⟩) | ((with_reducible show wpList _ _ _ (⟨_, Op.load 40 _, _, _, _, _⟩ :: _) _ _); first | (refine wla w.heap.size (Dc.cl d (.slice a n cap) (.slice sa m scap)) ?_) | (refine wlb w.heap.size (Dc.cl d (.slice a n cap) (.slice sa m scap)) ?_)))
     all_goals
      refine (specScanD_any d a cap n xs sa scap m ls _ (HSs.out.keep bl) (Sl.keep HSl.out bl) HX.out HL.out hn hm hm').mono ?_
      rintro r w40 ⟨rfl, hb40⟩
      have HB := Lib.hid (show scanD d ls = R by rw [← HT.out]; simp only [g1, g3, g8, Bool.and_false, Bool.false_and, Bool.true_and, Bool.and_true, Bool.not_true, Bool.not_false, Bool.or_true, Bool.true_or, Bool.or_false, Bool.false_or])
      clear HT
      rw [HB.out]
      go_wp2
      go_ret
      exact ⟨rfl, by exact bl⟩
   ·skip
    go_wp2_with (first | (go_at_call 51; refine (l1In_any _ _ _ _).mono ?_; rintro r wx ⟨rfl, rfl⟩; (try rw [i35])) | (go_at_call 63; refine (specWidthOf_any _ _).mono ?_; rintro r wx ⟨rfl, rfl⟩) | ((with_reducible show wpList _ _ _ (⟨_, Op.load 40 _, _, _, _, _⟩ :: _) _ _); first | (refine wla w.heap.size (Dc.cl d (.slice a n cap) (.slice sa m scap)) ?_) | (refine wlb w.heap.size (Dc.cl d (.slice a n cap) (.slice sa m scap)) ?_)))
    refine (specRuns_any d.field _).mono ?_
    rintro r w21 ⟨rfl, hb21⟩
    have hz21 := hb21.size
    try simp only [World.size_alloc, World.size_setCell, World.size_drew] at hz21
    have hb21b : Below w30.heap.size w30 w21 := by exact bl
    have kA_ := box_next hb21b hBA kA; clear kA
    have kA := kA_; clear kA_
    have hBA_ := Nat.lt_of_lt_of_le hBA hb21b.size; clear hBA; have hBA := hBA_; clear hBA_
    clear hb21; have hb21 := hb21b; clear hb21b
    cases g8 : runsF d.field
    ·skip
     have HB := Lib.hid (show false = R by rw [← HT.out]; simp only [g1, g3, g8, Bool.and_false, Bool.false_and, Bool.true_and, Bool.and_true, Bool.not_true, Bool.not_false, Bool.or_true, Bool.true_or, Bool.or_false, Bool.false_or])
     clear HT
     go_wp2_with (first | (go_at_call 51; refine (l1In_any _ _ _ _).mono ?_; rintro r wx ⟨rfl, rfl⟩; (try rw [i35])) | (go_at_call 63; refine (specWidthOf_any _ _).mono ?_; rintro r wx ⟨rfl, rfl⟩) | ((with_reducible show wpList _ _ _ (⟨_, Op.load 40 _, _, _, _, _⟩ :: _) _ _); first | (refine wla w.heap.size (Dc.cl d (.slice a n cap) (.slice sa m scap)) ?_) | (refine wlb w.heap.size (Dc.cl d (.slice a n cap) (.slice sa m scap)) ?_)))
     go_ret
     exact ⟨ret_bool HB.out, by exact bl⟩
    ·skip
     go_wp2_with (first | (go_at_call 51; refine (l1In_any _ _ _ _).mono ?_; rintro r wx ⟨rfl, rfl⟩; (try rw [i35])) | (go_at_call 63; refine (specWidthOf_any _ _).mono ?_; rintro r wx ⟨rfl, rfl⟩) | ((with_reducible show wpList _ _ _ (⟨_, Op.load 40 _, _, _, _, _⟩ :: _) _ _); first | (refine wla w.heap.size (Dc.cl d (.slice a n cap) (.slice sa m scap)) ?_) | (refine wlb w.heap.size (Dc.cl d (.slice a n cap) (.slice sa m scap)) ?_)))
     all_goals
      refine (specScanD_any d a cap n xs sa scap m ls _ (HSs.out.keep bl) (Sl.keep HSl.out bl) HX.out HL.out hn hm hm').mono ?_
      rintro r w40 ⟨rfl, hb40⟩
      have HB := Lib.hid (show scanD d ls = R by rw [← HT.out]; simp only [g1, g3, g8, Bool.and_false, Bool.false_and, Bool.true_and, Bool.and_true, Bool.not_true, Bool.not_false, Bool.or_true, Bool.true_or, Bool.or_false, Bool.false_or])
      clear HT
      rw [HB.out]
      go_wp2
      go_ret
      exact ⟨rfl, by exact bl⟩
set_option maxRecDepth 100000 in
set_option maxHeartbeats 8000000 in
theorem specDecOk_m9 (d : Dc) (a : Option Addr) (cap n : Nat) (xs : List Shp) (sa : Option Addr) (scap m : Nat) (ls : List Lvl) (w : World) (h : Shs w a xs) (h' : Lvls w sa ls) (hx : xs.length = n) (hl : ls.length = m) (hn : n ≤ 1048576) (hm : fldSum xs ≤ 1048576) (hm' : m ≤ 1048576) (h1 : planOk d.p xs = true) (h2 : inB d.mode 1 9 = true) (h3 : inB d.at_ 0 1000000000 = true) (h4 : inB d.start 0 d.at_ = true) (h5 : utfOk d.utf = true) (h6 : wireOk d.wire = true) (h7 : fieldIn d.field xs = true) (h8 : stackOk d n ls = true) (hM : d.mode = 9) (R : Bool) (hT : (endOk d && (wantOk d ls && (kindOk d && scanD d ls))) = R) :
  Calls Tryz.prog 30 #[d.val (.slice a n cap) (.slice sa m scap)] w fun r w' => r = .returned (.bool R) ∧ Below w.heap.size w w' := by
 have HL := Lib.hid hl; clear hl
 have HX := Lib.hid hx; clear hx
 have HSs := Lib.hid h; clear h
 have HSl := Lib.hid h'; clear h'
 have HT := Lib.hid hT; clear hT
 have HM0 := Lib.hid hM; clear hM
 have hxn : xs.length = n := HX.out
 have hne1 := run_neq_ev
 have hne2 := run_neq_fld
 go_enter Tryz.func30, Tryz.ntmps30
 go_wp2_with fail
 refine (specPlanOk_any a cap n d.p xs _ (HSs.out.keep bl) HX.out hn hm).mono ?_
 rintro r w1 ⟨rfl, hb1⟩
 have hz1 := hb1.size
 try simp only [World.size_alloc, World.size_setCell, World.size_drew] at hz1
 have hb1b : Below w.heap.size w w1 := by exact bl
 have kA := box_new0 hb1
 have hBA := box_lt0 hb1
 try simp only [World.size_alloc, World.size_setCell, World.size_drew] at kA
 try simp only [World.size_alloc, World.size_setCell, World.size_drew] at hBA
 clear hb1; have hb1 := hb1b; clear hb1b
 rw [h1]
 go_wp2_with (first | ((with_reducible show wpList _ _ _ (⟨_, Op.load 40 _, _, _, _, _⟩ :: _) _ _); first | (refine wla w.heap.size (Dc.cl d (.slice a n cap) (.slice sa m scap)) ?_) | (refine wlb w.heap.size (Dc.cl d (.slice a n cap) (.slice sa m scap)) ?_)))
 refine (l1In_any _ _ _ _).mono ?_
 rintro r wx2 ⟨rfl, rfl⟩
 rw [h2]
 go_wp2_with (first | ((with_reducible show wpList _ _ _ (⟨_, Op.load 40 _, _, _, _, _⟩ :: _) _ _); first | (refine wla w.heap.size (Dc.cl d (.slice a n cap) (.slice sa m scap)) ?_) | (refine wlb w.heap.size (Dc.cl d (.slice a n cap) (.slice sa m scap)) ?_)))
 refine (l1In_any _ _ _ _).mono ?_
 rintro r wx3 ⟨rfl, rfl⟩
 rw [h3]
 go_wp2_with (first | ((with_reducible show wpList _ _ _ (⟨_, Op.load 40 _, _, _, _, _⟩ :: _) _ _); first | (refine wla w.heap.size (Dc.cl d (.slice a n cap) (.slice sa m scap)) ?_) | (refine wlb w.heap.size (Dc.cl d (.slice a n cap) (.slice sa m scap)) ?_)))
 refine (l1In_any _ _ _ _).mono ?_
 rintro r wx4 ⟨rfl, rfl⟩
 rw [h4]
 go_wp2_with (first | ((with_reducible show wpList _ _ _ (⟨_, Op.load 40 _, _, _, _, _⟩ :: _) _ _); first | (refine wla w.heap.size (Dc.cl d (.slice a n cap) (.slice sa m scap)) ?_) | (refine wlb w.heap.size (Dc.cl d (.slice a n cap) (.slice sa m scap)) ?_)))
 refine (specUtfOk_any d.utf _).mono ?_
 rintro r w5 ⟨rfl, hb5⟩
 have hz5 := hb5.size
 try simp only [World.size_alloc, World.size_setCell, World.size_drew] at hz5
 have hb5b : Below w1.heap.size w1 w5 := by exact bl
 have kA_ := box_next hb5b hBA kA; clear kA
 have kA := kA_; clear kA_
 have hBA_ := Nat.lt_of_lt_of_le hBA hb5b.size; clear hBA; have hBA := hBA_; clear hBA_
 clear hb5; have hb5 := hb5b; clear hb5b
 rw [h5]
 go_wp2_with (first | ((with_reducible show wpList _ _ _ (⟨_, Op.load 40 _, _, _, _, _⟩ :: _) _ _); first | (refine wla w.heap.size (Dc.cl d (.slice a n cap) (.slice sa m scap)) ?_) | (refine wlb w.heap.size (Dc.cl d (.slice a n cap) (.slice sa m scap)) ?_)))
 refine (specWireOk_any _ _).mono ?_
 rintro r wx6 ⟨rfl, rfl⟩
 rw [h6]
 go_wp2_with (first | ((with_reducible show wpList _ _ _ (⟨_, Op.load 40 _, _, _, _, _⟩ :: _) _ _); first | (refine wla w.heap.size (Dc.cl d (.slice a n cap) (.slice sa m scap)) ?_) | (refine wlb w.heap.size (Dc.cl d (.slice a n cap) (.slice sa m scap)) ?_)))
 refine (specFieldOk_any d a cap n xs sa scap m ls _ (HSs.out.keep bl) (Sl.keep HSl.out bl) HX.out HL.out hn hm hm').mono ?_
 rintro r w7 ⟨rfl, hb7⟩
 have hz7 := hb7.size
 try simp only [World.size_alloc, World.size_setCell, World.size_drew] at hz7
 have hb7b : Below w5.heap.size w5 w7 := by exact bl
 have kA_ := box_next hb7b hBA kA; clear kA
 have kA := kA_; clear kA_
 have hBA_ := Nat.lt_of_lt_of_le hBA hb7b.size; clear hBA; have hBA := hBA_; clear hBA_
 clear hb7; have hb7 := hb7b; clear hb7b
 rw [h7]
 go_wp2_with (first | ((with_reducible show wpList _ _ _ (⟨_, Op.load 40 _, _, _, _, _⟩ :: _) _ _); first | (refine wla w.heap.size (Dc.cl d (.slice a n cap) (.slice sa m scap)) ?_) | (refine wlb w.heap.size (Dc.cl d (.slice a n cap) (.slice sa m scap)) ?_)))
 refine (specStackOk_any d a cap n xs sa scap m ls _ (HSs.out.keep bl) (Sl.keep HSl.out bl) HX.out HL.out hn hm hm').mono ?_
 rintro r w8 ⟨rfl, hb8⟩
 have hz8 := hb8.size
 try simp only [World.size_alloc, World.size_setCell, World.size_drew] at hz8
 have hb8b : Below w7.heap.size w7 w8 := by exact bl
 have kA_ := box_next hb8b hBA kA; clear kA
 have kA := kA_; clear kA_
 have hBA_ := Nat.lt_of_lt_of_le hBA hb8b.size; clear hBA; have hBA := hBA_; clear hBA_
 clear hb8; have hb8 := hb8b; clear hb8b
 rw [h8]
 have hM := HM0.out
 have e1 : (d.mode == 1) = false := by simp [hM]
 have e2 : (d.mode == 2) = false := by simp [hM]
 have e3 : (d.mode == 3) = false := by simp [hM]
 have e4 : (d.mode == 4) = false := by simp [hM]
 have e5 : (d.mode == 5) = false := by simp [hM]
 have e6 : (d.mode == 6) = false := by simp [hM]
 have e7 : (d.mode == 7) = false := by simp [hM]
 have e8 : (d.mode == 8) = false := by simp [hM]
 have e9 : (d.mode == 9) = true := by simp [hM]
 have b1 : (d.mode != 1) = true := by simp [hM]
 have b2 : (d.mode != 2) = true := by simp [hM]
 have b3 : (d.mode != 3) = true := by simp [hM]
 have b4 : (d.mode != 4) = true := by simp [hM]
 have b5 : (d.mode != 5) = true := by simp [hM]
 have b6 : (d.mode != 6) = true := by simp [hM]
 have b7 : (d.mode != 7) = true := by simp [hM]
 have b8 : (d.mode != 8) = true := by simp [hM]
 have b9 : (d.mode != 9) = false := by simp [hM]
 have i35 : inB d.mode 3 5 = false := by rw [hM]; rfl
 have hE0 : endOk d = (eventOk d.end_ && terminal d.end_) := by simp only [endOk, hM]; rfl
 have hW0 : wantOk d ls = (d.want == 0) := by simp only [wantOk, hM]; rfl
 have hK0 : kindOk d = true := by simp only [kindOk, hM]; rfl
 rw [hE0, hW0, hK0] at HT
 clear hM hE0 hW0 hK0
 go_wp2_with (first | (go_at_call 51; refine (l1In_any _ _ _ _).mono ?_; rintro r wx ⟨rfl, rfl⟩; (try rw [i35])) | (go_at_call 63; refine (specWidthOf_any _ _).mono ?_; rintro r wx ⟨rfl, rfl⟩) | ((with_reducible show wpList _ _ _ (⟨_, Op.load 40 _, _, _, _, _⟩ :: _) _ _); first | (refine wla w.heap.size (Dc.cl d (.slice a n cap) (.slice sa m scap)) ?_) | (refine wlb w.heap.size (Dc.cl d (.slice a n cap) (.slice sa m scap)) ?_)))
 refine (specEventOk_any d.end_ _).mono ?_
 rintro r w20 ⟨rfl, hb20⟩
 have hz20 := hb20.size
 try simp only [World.size_alloc, World.size_setCell, World.size_drew] at hz20
 have hb20b : Below w8.heap.size w8 w20 := by exact bl
 have kA_ := box_next hb20b hBA kA; clear kA
 have kA := kA_; clear kA_
 have hBA_ := Nat.lt_of_lt_of_le hBA hb20b.size; clear hBA; have hBA := hBA_; clear hBA_
 clear hb20; have hb20 := hb20b; clear hb20b
 cases g1 : eventOk d.end_
 ·skip
  have HB := Lib.hid (show false = R by rw [← HT.out]; simp only [g1, Bool.and_false, Bool.false_and, Bool.true_and, Bool.and_true, Bool.not_true, Bool.not_false, Bool.or_true, Bool.true_or, Bool.or_false, Bool.false_or])
  clear HT
  go_wp2_with (first | (go_at_call 51; refine (l1In_any _ _ _ _).mono ?_; rintro r wx ⟨rfl, rfl⟩; (try rw [i35])) | (go_at_call 63; refine (specWidthOf_any _ _).mono ?_; rintro r wx ⟨rfl, rfl⟩) | ((with_reducible show wpList _ _ _ (⟨_, Op.load 40 _, _, _, _, _⟩ :: _) _ _); first | (refine wla w.heap.size (Dc.cl d (.slice a n cap) (.slice sa m scap)) ?_) | (refine wlb w.heap.size (Dc.cl d (.slice a n cap) (.slice sa m scap)) ?_)))
  go_ret
  exact ⟨ret_bool HB.out, by exact bl⟩
 ·skip
  go_wp2_with (first | (go_at_call 51; refine (l1In_any _ _ _ _).mono ?_; rintro r wx ⟨rfl, rfl⟩; (try rw [i35])) | (go_at_call 63; refine (specWidthOf_any _ _).mono ?_; rintro r wx ⟨rfl, rfl⟩) | ((with_reducible show wpList _ _ _ (⟨_, Op.load 40 _, _, _, _, _⟩ :: _) _ _); first | (refine wla w.heap.size (Dc.cl d (.slice a n cap) (.slice sa m scap)) ?_) | (refine wlb w.heap.size (Dc.cl d (.slice a n cap) (.slice sa m scap)) ?_)))
  refine (specTerminal_any d.end_ _).mono ?_
  rintro r w21 ⟨rfl, hb21⟩
  have hz21 := hb21.size
  try simp only [World.size_alloc, World.size_setCell, World.size_drew] at hz21
  have hb21b : Below w20.heap.size w20 w21 := by exact bl
  have kA_ := box_next hb21b hBA kA; clear kA
  have kA := kA_; clear kA_
  have hBA_ := Nat.lt_of_lt_of_le hBA hb21b.size; clear hBA; have hBA := hBA_; clear hBA_
  clear hb21; have hb21 := hb21b; clear hb21b
  cases g2 : terminal d.end_
  ·skip
   have HB := Lib.hid (show false = R by rw [← HT.out]; simp only [g1, g2, Bool.and_false, Bool.false_and, Bool.true_and, Bool.and_true, Bool.not_true, Bool.not_false, Bool.or_true, Bool.true_or, Bool.or_false, Bool.false_or])
   clear HT
   go_wp2_with (first | (go_at_call 51; refine (l1In_any _ _ _ _).mono ?_; rintro r wx ⟨rfl, rfl⟩; (try rw [i35])) | (go_at_call 63; refine (specWidthOf_any _ _).mono ?_; rintro r wx ⟨rfl, rfl⟩) | ((with_reducible show wpList _ _ _ (⟨_, Op.load 40 _, _, _, _, _⟩ :: _) _ _); first | (refine wla w.heap.size (Dc.cl d (.slice a n cap) (.slice sa m scap)) ?_) | (refine wlb w.heap.size (Dc.cl d (.slice a n cap) (.slice sa m scap)) ?_)))
   go_ret
   exact ⟨ret_bool HB.out, by exact bl⟩
  ·skip
   cases g3 : (d.want == 0)
   ·skip
    have HB := Lib.hid (show false = R by rw [← HT.out]; simp only [g1, g2, g3, Bool.and_false, Bool.false_and, Bool.true_and, Bool.and_true, Bool.not_true, Bool.not_false, Bool.or_true, Bool.true_or, Bool.or_false, Bool.false_or])
    clear HT
    go_wp2_with (first | (go_at_call 51; refine (l1In_any _ _ _ _).mono ?_; rintro r wx ⟨rfl, rfl⟩; (try rw [i35])) | (go_at_call 63; refine (specWidthOf_any _ _).mono ?_; rintro r wx ⟨rfl, rfl⟩) | ((with_reducible show wpList _ _ _ (⟨_, Op.load 40 _, _, _, _, _⟩ :: _) _ _); first | (refine wla w.heap.size (Dc.cl d (.slice a n cap) (.slice sa m scap)) ?_) | (refine wlb w.heap.size (Dc.cl d (.slice a n cap) (.slice sa m scap)) ?_)))
    go_ret
    exact ⟨ret_bool HB.out, by exact bl⟩
   ·skip
    cases t6 : (d.field.kind == 6)
    all_goals
     go_wp2_with (first | (go_at_call 51; refine (l1In_any _ _ _ _).mono ?_; rintro r wx ⟨rfl, rfl⟩; (try rw [i35])) | (go_at_call 63; refine (specWidthOf_any _ _).mono ?_; rintro r wx ⟨rfl, rfl⟩) | ((with_reducible show wpList _ _ _ (⟨_, Op.load 40 _, _, _, _, _⟩ :: _) _ _); first | (refine wla w.heap.size (Dc.cl d (.slice a n cap) (.slice sa m scap)) ?_) | (refine wlb w.heap.size (Dc.cl d (.slice a n cap) (.slice sa m scap)) ?_)))
     all_goals
      refine (specScanD_any d a cap n xs sa scap m ls _ (HSs.out.keep bl) (Sl.keep HSl.out bl) HX.out HL.out hn hm hm').mono ?_
      rintro r w40 ⟨rfl, hb40⟩
      have HB := Lib.hid (show scanD d ls = R by rw [← HT.out]; simp only [g1, g2, g3, Bool.and_false, Bool.false_and, Bool.true_and, Bool.and_true, Bool.not_true, Bool.not_false, Bool.or_true, Bool.true_or, Bool.or_false, Bool.false_or])
      clear HT
      rw [HB.out]
      go_wp2
      go_ret
      exact ⟨rfl, by exact bl⟩
theorem head_parts {d : Dc} {xs : List Shp} {ls : List Lvl} {n : Nat} (hx : xs.length = n) (h : headOk d xs ls = true) : planOk d.p xs = true ∧ inB d.mode 1 9 = true ∧ inB d.at_ 0 1000000000 = true ∧ inB d.start 0 d.at_ = true ∧ utfOk d.utf = true ∧ wireOk d.wire = true ∧ fieldIn d.field xs = true ∧ stackOk d n ls = true := by
 subst hx
 simpa only [headOk, Bool.and_eq_true] using h
theorem nine_modes {d : Dc} (h : inB d.mode 1 9 = true) : d.mode = 1 ∨ d.mode = 2 ∨ d.mode = 3 ∨ d.mode = 4 ∨ d.mode = 5 ∨ d.mode = 6 ∨ d.mode = 7 ∨ d.mode = 8 ∨ d.mode = 9 := by simp only [inB, decide_eq_true_eq] at h; omega
theorem specDecOk_any (d : Dc) (a : Option Addr) (cap n : Nat) (xs : List Shp) (sa : Option Addr) (scap m : Nat) (ls : List Lvl) (w : World) (h : Shs w a xs) (h' : Lvls w sa ls) (hx : xs.length = n) (hl : ls.length = m) (hn : n ≤ 1048576) (hm : fldSum xs ≤ 1048576) (hm' : m ≤ 1048576) :
  Calls Tryz.prog 30 #[d.val (.slice a n cap) (.slice sa m scap)] w fun r w' => r = .returned (.bool (decOk d xs ls)) ∧ Below w.heap.size w w' := by
 cases hh : headOk d xs ls
 ·rw [show decOk d xs ls = false by simp only [decOk, hh, Bool.false_and]]
  exact specDecOk_head d a cap n xs sa scap m ls w h h' hx hl hn hm hm' hh
 ·obtain ⟨R, hR⟩ : ∃ R, decOk d xs ls = R := ⟨_, rfl⟩
  rw [hR]
  have hT : (endOk d && (wantOk d ls && (kindOk d && scanD d ls))) = R := by rw [← hR]; simp only [decOk, hh, Bool.true_and]
  obtain ⟨h1, h2, h3, h4, h5, h6, h7, h8⟩ := head_parts hx hh
  rcases nine_modes h2 with hM | hM | hM | hM | hM | hM | hM | hM | hM
  ·exact specDecOk_m1 d a cap n xs sa scap m ls w h h' hx hl hn hm hm' h1 h2 h3 h4 h5 h6 h7 h8 hM R hT
  ·exact specDecOk_m2 d a cap n xs sa scap m ls w h h' hx hl hn hm hm' h1 h2 h3 h4 h5 h6 h7 h8 hM R hT
  ·exact specDecOk_m3 d a cap n xs sa scap m ls w h h' hx hl hn hm hm' h1 h2 h3 h4 h5 h6 h7 h8 hM R hT
  ·exact specDecOk_m4 d a cap n xs sa scap m ls w h h' hx hl hn hm hm' h1 h2 h3 h4 h5 h6 h7 h8 hM R hT
  ·exact specDecOk_m5 d a cap n xs sa scap m ls w h h' hx hl hn hm hm' h1 h2 h3 h4 h5 h6 h7 h8 hM R hT
  ·exact specDecOk_m6 d a cap n xs sa scap m ls w h h' hx hl hn hm hm' h1 h2 h3 h4 h5 h6 h7 h8 hM R hT
  ·exact specDecOk_m7 d a cap n xs sa scap m ls w h h' hx hl hn hm hm' h1 h2 h3 h4 h5 h6 h7 h8 hM R hT
  ·exact specDecOk_m8 d a cap n xs sa scap m ls w h h' hx hl hn hm hm' h1 h2 h3 h4 h5 h6 h7 h8 hM R hT
  ·exact specDecOk_m9 d a cap n xs sa scap m ls w h h' hx hl hn hm hm' h1 h2 h3 h4 h5 h6 h7 h8 hM R hT
theorem specDecOkL_any (d : Dc) (a : Option Addr) (cap n : Nat) (xs : List Shp) (sa : Option Addr) (scap m : Nat) (ls : List Lvl) (w : World) (h : Shs w a xs) (h' : Lvls w sa ls) (hx : xs.length = n) (hl : ls.length = m) (hn : n ≤ 1048576) (hm : fldSum xs ≤ 1048576) (hm' : m ≤ 1048576) :
  Calls Tryz.prog 30 #[d.val (.slice a n cap) (.slice sa m scap)] w fun r w' => r = .returned (.bool (decOk d xs ls)) ∧ Below w.heap.size w w' := by
 exact specDecOk_any d a cap n xs sa scap m ls w h h' hx hl hn hm hm'
structure StO (w wr : World) (O : Nat) (d x : Dc) (a0 : Option Addr) (cap0 : Nat) (sa0 : Option Addr) (scap0 n0 : Nat) (xs : List Shp) (ls : List Lvl) (a : Option Addr) (cap : Nat) (rs : List ShR) (sa : Option Addr) (scap : Nat) : Prop where
 arg : wr.heap[w.heap.size]? = some (.cells (Dc.cl d (.slice a0 xs.length cap0) (.slice sa0 n0 scap0)).toArray 40 (0, 0))
 res : wr.heap[w.heap.size + 1]? = some (.cells dz0.toArray 40 (0, 0))
 box : wr.heap[O]? = some (.cells (Dc.cl x (.slice a xs.length cap) (.slice sa ls.length scap)).toArray 40 (0, 0))
 sh : OwnShs wr (w.heap.size + 1 + 1) 77 34 (.slice a xs.length cap) xs.length rs xs
 lv : wr.ownsRow (w.heap.size + 1 + 1) 67 2 (.slice sa ls.length scap) ls.length (ls.flatMap Lvl.cs)
 bel : Below w.heap.size w wr
 hO : w.heap.size + 1 < O
section
variable {w wr w' : World} {O : Nat} {d x e : Dc} {a0 : Option Addr} {cap0 : Nat} {sa0 : Option Addr} {scap0 n0 : Nat} {xs : List Shp} {ls : List Lvl} {a : Option Addr} {cap : Nat} {rs : List ShR} {sa : Option Addr} {scap : Nat}
theorem StO.sz (h : StO w wr O d x a0 cap0 sa0 scap0 n0 xs ls a cap rs sa scap) : O < wr.heap.size := box_lt h.box
theorem StO.keep (h : StO w wr O d x a0 cap0 sa0 scap0 n0 xs ls a cap rs sa scap) (hb : Below wr.heap.size wr w') : StO w w' O d x a0 cap0 sa0 scap0 n0 xs ls a cap rs sa scap :=
 ⟨(hb.block _ (box_lt h.arg)).trans h.arg, (hb.block _ (box_lt h.res)).trans h.res, (hb.block _ (box_lt h.box)).trans h.box, h.sh.chain hb (Nat.le_refl _), owns_below h.lv hb (Nat.le_refl _), h.bel.trans (hb.mono h.bel.size), h.hO⟩
theorem StO.upd (h : StO w wr O d x a0 cap0 sa0 scap0 n0 xs ls a cap rs sa scap) (hG : wr.grownBy w' (some O)) (hb : w'.heap[O]? = some (.cells (Dc.cl e (.slice a xs.length cap) (.slice sa ls.length scap)).toArray 40 (0, 0))) : StO w w' O d e a0 cap0 sa0 scap0 n0 xs ls a cap rs sa scap :=
 ⟨(hG.block _ (box_lt h.arg) (by have := h.hO; simp only [ne_eq, Option.some.injEq]; omega)).trans h.arg, (hG.block _ (box_lt h.res) (by have := h.hO; simp only [ne_eq, Option.some.injEq]; omega)).trans h.res, hb, h.sh.keepBy hG (other_box h.box (by decide)) (other_box h.box (by decide)), owns_keep h.lv hG (other_box h.box (by decide)), below_grown h.bel hG (fun g e => by have := Option.some.inj e; have := h.hO; omega) (by have := h.bel.size; omega), h.hO⟩
theorem StO.lvs {g : Nat} {ls' : List Lvl} (h : StO w wr O d x a0 cap0 sa0 scap0 n0 xs ls a cap rs (some ⟨g, 0, none⟩) scap) (hG : wr.grownBy w' (some g)) (hl : ls'.length = ls.length) (hv : w'.ownsRow (w.heap.size + 1 + 1) 67 2 (.slice (some ⟨g, 0, none⟩) ls'.length scap) ls'.length (ls'.flatMap Lvl.cs)) : StO w w' O d x a0 cap0 sa0 scap0 n0 xs ls' a cap rs (some ⟨g, 0, none⟩) scap := by
 have oth : ∀ t, 67 ≠ t → Other wr (some g) t := fun t ht => (show Other wr (Value.slice (some ⟨g, 0, none⟩) ls.length scap).ownBlock t from other_own h.lv ht)
 have hg := h.lv.lt g rfl
 obtain ⟨cur, hcur⟩ := own_blk h.lv (g := g) rfl
 have hne : ∀ k cs, wr.heap[k]? = some (.cells cs 40 (0, 0)) → k ≠ g := fun k cs hk e => by subst e; exact absurd (typed_neL hcur hk) (by decide)
 have hb := (hG.block _ (box_lt h.box) (by have := hne _ _ h.box; simp only [ne_eq, Option.some.injEq]; omega)).trans h.box
 rw [← hl] at hb
 exact ⟨(hG.block _ (box_lt h.arg) (by have := hne _ _ h.arg; simp only [ne_eq, Option.some.injEq]; omega)).trans h.arg, (hG.block _ (box_lt h.res) (by have := hne _ _ h.res; simp only [ne_eq, Option.some.injEq]; omega)).trans h.res, hb, h.sh.keepBy hG (oth _ (by decide)) (oth _ (by decide)), hv, below_grown h.bel hG (fun q e => by have := Option.some.inj e; omega) (by have := h.bel.size; omega), h.hO⟩
theorem StO.done {F : Func} {p q : Tmp} (hF : F.results = #[.cell p 40, .tmp q]) {tm : Array Value} {y : Dc} {ms : List Lvl} {es : List Ev} {a' sa' ea : Option Addr} {cap' scap' ecap : Nat} {rs' : List ShR}
  (h : StO w wr O d x a0 cap0 sa0 scap0 n0 xs ls a cap rs sa scap) (hs : OwnShs wr (w.heap.size + 1 + 1) 77 34 (.slice a' xs.length cap') xs.length rs' xs) (hp : wr.ownsRow (w.heap.size + 1 + 1) 67 2 (.slice sa' ms.length scap') ms.length (ms.flatMap Lvl.cs)) (he : wr.ownsRow (w.heap.size + 1 + 1) 38 7 (.slice ea es.length ecap) es.length (es.flatMap Ev.cs)) (h8 : ms.length ≤ 8)
  (t1 : tm.getD p undef = .pointer (some ⟨w.heap.size + 1, 0, none⟩)) (t2 : tm.getD q undef = .slice ea es.length ecap) :
  bodyPost Tryz.prog F (SomeB w.heap.size w xs) .ret ⟨tm, []⟩ (wr.setRow (w.heap.size + 1) (c1111 (.slice a' xs.length cap') (.slice sa' ms.length scap') y.p y.mode y.bits y.have_ y.start y.at_ y.field y.wire y.want y.utf y.end_).toArray) := by
 have hz := box_lt h.res
 refine bodyPost_ret (results_cell_tmp hF t1 t2 (run_loadVar_mid _ (w.heap.size + 1) 0 40 (c1111 (.slice a' xs.length cap') (.slice sa' ms.length scap') y.p y.mode y.bits y.have_ y.start y.at_ y.field y.wire y.want y.utf y.end_) _ (range_of_box (t := 40) (hset_row (cs := dz0.toArray) h.res)) Tryz.underlying40 rfl size_Dec)) rfl ⟨y, ms, es, a', cap', rs', sa', scap', ea, ecap, rfl, ?_, ?_, ?_, ?_, h8⟩
 ·exact (hs.setRow (by omega) _).le (by omega)
 ·exact owns_le (owns_setRow hp (by omega) _) (by omega)
 ·exact owns_le (owns_setRow he (by omega) _) (by omega)
 ·have := h.bel; exact bl
end
theorem div_none {b p : Int} (hp : 0 < p) (h : b / p = 0) : 0 ≤ b ∧ b < p := by
 have e := Int.emod_add_mul_ediv b p
 rw [h] at e
 have h1 := Int.emod_nonneg b (show p ≠ 0 by omega)
 have h2 := Int.emod_lt_of_pos b hp
 omega
theorem small_bits {b : Int} {k : Nat} (hk : k ≤ 63) (h : b / 2 ^ k = 0) : WU64 b := by
 have hp : (0 : Int) < 2 ^ k := Int.pow_pos (by omega)
 obtain ⟨h0, h1⟩ := div_none hp h
 have h2 : (2 : Nat) ^ k ≤ 2 ^ 63 := Nat.pow_le_pow_right (by omega) hk
 have h3 : ((2 : Int) ^ k) = ((2 ^ k : Nat) : Int) := by simp
 rw [h3] at h1
 have h4 : (2 : Nat) ^ 63 = 9223372036854775808 := by decide
 unfold WU64; simp [Lit.wf, IntKind.min, IntKind.max, IntKind.signed, IntKind.bits]; omega
theorem decOk_st {d : Dc} {xs : List Shp} {ls : List Lvl} (h : decOk d xs ls = true) : WU64 d.bits ∧ W64 d.have_ ∧ d.utf.ok := by
 have hs : scanD d ls = true ∧ utfOk d.utf = true := by
  simp only [decOk, headOk, Bool.and_eq_true] at h
  exact ⟨h.2.2.2.2, h.1.2.2.2.2.1⟩
 have hsc : ∀ b k : Int, scanOk b k = true → WU64 b ∧ W64 k := by
  intro b k hk
  simp only [scanOk, inB, Bool.and_eq_true, decide_eq_true_eq] at hk
  obtain ⟨n, rfl⟩ := Int.eq_ofNat_of_zero_le hk.1.1
  have hn : n ≤ 9 := by omega
  rw [Int.toNat_natCast] at hk
  exact ⟨small_bits (by omega : 7 * n ≤ 63) hk.2, w64_lim (by omega) (by omega)⟩
 have hsf : ∀ w k b l : Int, scanFits w k b l = true → (w = 0 ∨ w = 4 ∨ w = 8) → WU64 b ∧ W64 k := by
  intro w k b l hk hw
  simp only [scanFits, inB, Bool.and_eq_true, decide_eq_true_eq] at hk
  obtain ⟨n, rfl⟩ := Int.eq_ofNat_of_zero_le hk.1.1
  have e : (8 * (n : Int)).toNat = 8 * n := by omega
  rw [e] at hk
  exact ⟨small_bits (by omega : 8 * n ≤ 63) hk.2.1, w64_lim (by omega) (by omega)⟩
 have h1 : WU64 d.bits ∧ W64 d.have_ := by
  have h0 := hs.1
  unfold scanD at h0
  split at h0
  ·simp only [sameS, decide_eq_true_eq] at h0
   rw [h0.1, h0.2]; exact ⟨by unfold WU64; decide, by unfold W64; decide⟩
  ·split at h0
   ·exact hsf _ _ _ _ h0 (widthD_cases d)
   ·split at h0
    ·split at h0
     ·exact hsc _ _ h0
     ·exact hsf _ _ _ _ h0 (widthD_cases d)
    ·exact hsc _ _ h0
 exact ⟨h1.1, h1.2, (utfOk_ok hs.2).1⟩
def Gate (d : Dc) (xs : List Shp) (ls : List Lvl) (q : Bool) : Prop := q = false → decOk d xs ls = true
set_option maxRecDepth 100000 in
set_option maxHeartbeats 8000000 in
theorem stepByte_some (d : Dc) (a0 : Option Addr) (cap0 : Nat) (xs : List Shp) (sa0 : Option Addr) (scap0 : Nat) (ls0 : List Lvl) (b : Int) (w : World) (h : ShsC w a0 xs) (h' : Lvls w sa0 ls0) (hn : xs.length ≤ 1048576) (hm : fldSum xs ≤ 1048576) (h8 : ls0.length ≤ 8) (hnil : sa0 = none → scap0 = 0) :
  Calls Tryz.prog 113 #[d.val (.slice a0 xs.length cap0) (.slice sa0 ls0.length scap0), .int .i64 b] w (SomeB w.heap.size w xs) := by
 have HSs := Lib.hid h; clear h
 have HSl := Lib.hid h'; clear h'
 go_enter Tryz.func113, Tryz.ntmps113
 go_wp2_with (first | ((with_reducible show wpList _ _ _ (⟨_, Op.load 40 _, _, _, _, _⟩ :: _) _ _); refine wlm w.heap.size (Dc.cl d (.slice a0 xs.length cap0) (.slice sa0 ls0.length scap0)) (range_of_box (t := 40) (hset_alloc (hset_new rfl))) ?_))
 refine (l14Copy_any d a0 cap0 xs sa0 scap0 ls0 _ (HSs.out.keep bl) (Sl.keep HSl.out bl) hn hm (by omega) hnil).mono ?_
 rintro r w1 ⟨a1, cap1, rs1, sa1, scap1, rfl, ho1, hp1, hb1⟩
 have hz1 := hb1.size
 simp only [World.size_alloc] at hz1
 have hA_ : w1.heap[w.heap.size]? = some (.cells (Dc.cl d (.slice a0 xs.length cap0) (.slice sa0 ls0.length scap0)).toArray 40 (0, 0)) := (hb1.block _ (by simp; omega)).trans (hset_alloc (hset_new rfl))
 have hR_ : w1.heap[w.heap.size + 1]? = some (.cells dz0.toArray 40 (0, 0)) := (hb1.block _ (by simp)).trans (hset_new (by simp))
 have hb1b : Below w.heap.size w w1 := by exact bl
 have P1 := Lib.hid (OwnShs.le ho1 (show w.heap.size + 1 + 1 ≤ _ by simp)); clear ho1
 have P2 := Lib.hid (owns_le hp1 (show w.heap.size + 1 + 1 ≤ _ by simp)); clear hp1 hb1
 have HA := Lib.hid hA_; clear hA_
 have HR := Lib.hid hR_; clear hR_
 go_upto_region 2 with (first | ((with_reducible show wpList _ _ _ (⟨_, Op.store 40 _ _, _, _, _, _⟩ :: _) _ _); refine wsq w1.heap.size (Dc.cl d (.slice a1 xs.length cap1) (.slice sa1 ls0.length scap1)).toArray (hset_new rfl) (one_Dec _ _ _ _ _ _ _) ?_))
 have hbx : Below w1.heap.size w1 ((w1.alloc (.cells dz0.toArray 40)).setRow w1.heap.size (Dc.cl d (.slice a1 xs.length cap1) (.slice sa1 ls0.length scap1)).toArray) := by exact bl
 have hO_ : ((w1.alloc (.cells dz0.toArray 40)).setRow w1.heap.size (Dc.cl d (.slice a1 xs.length cap1) (.slice sa1 ls0.length scap1)).toArray).heap[w1.heap.size]? = some (.cells (Dc.cl d (.slice a1 xs.length cap1) (.slice sa1 ls0.length scap1)).toArray 40 (0, 0)) := hset_row (cs := dz0.toArray) (hset_new rfl)
 obtain ⟨w2, hw2⟩ : ∃ w2, w2 = (w1.alloc (.cells dz0.toArray 40)).setRow w1.heap.size (Dc.cl d (.slice a1 xs.length cap1) (.slice sa1 ls0.length scap1)).toArray := ⟨_, rfl⟩
 rw [← hw2] at hbx hO_ ⊢
 clear hw2
 obtain ⟨O, hO⟩ : ∃ q, w1.heap.size = q := ⟨_, rfl⟩
 have HM := Lib.hid (show StO w w2 w1.heap.size d d a0 cap0 sa0 scap0 ls0.length xs ls0 a1 cap1 rs1 sa1 scap1 from ⟨(hbx.block _ (by omega)).trans HA.out, (hbx.block _ (by omega)).trans HR.out, hO_, P1.out.chain hbx (Nat.le_refl _), owns_below P2.out hbx (Nat.le_refl _), hb1b.trans (hbx.mono (by omega)), by omega⟩)
 rw [hO] at HM
 try simp only [hO]
 try simp only [Act.put]
 clear hbx hO_ HA HR P1 P2 hb1b hO hz1
 have kA := box_cells HM.out.arg; have fA := box_frozen HM.out.arg; have hBA := box_lt HM.out.arg
 have kO := box_cells HM.out.box; have fO := box_frozen HM.out.box; have hBO := box_lt HM.out.box; have hOw := HM.out.hO
 go_cut [30] from 13 to 30 (fun t wx => (∃ q : Bool, t = .bool q ∧ Gate d xs ls0 q) ∧ StO w wx O d d a0 cap0 sa0 scap0 ls0.length xs ls0 a1 cap1 rs1 sa1 scap1)
 case first =>
  go_wp2_with (first | ((with_reducible show wpList _ _ _ (⟨_, Op.load 40 _, _, _, _, _⟩ :: _) _ _); refine wlm w.heap.size (Dc.cl d (.slice a0 xs.length cap0) (.slice sa0 ls0.length scap0)) (range_of_box (t := 40) HM.out.arg) ?_))
  refine (specDecOkL_any d a0 cap0 _ xs sa0 scap0 _ ls0 _ (HSs.out.keep HM.out.bel).shs (Sl.keep HSl.out HM.out.bel) rfl rfl hn hm (by omega)).mono ?_
  rintro r w3 ⟨rfl, hb3⟩
  have H3 := Lib.hid (HM.out.keep hb3); clear hb3 HM
  clear kA fA hBA kO fO hBO hOw
  have kA := box_cells H3.out.arg; have fA := box_frozen H3.out.arg; have hBA := box_lt H3.out.arg
  have kO := box_cells H3.out.box; have fO := box_frozen H3.out.box; have hBO := box_lt H3.out.box; have hOw := H3.out.hO
  cases hok : decOk d xs ls0
  ·go_wp2_with fail
   go_meet
   case rel => exact ⟨⟨_, rfl, fun e => by cases e⟩, H3.out⟩
  ·have HOK := Lib.hid hok; clear hok
   cases m9 : (d.mode == 9)
   ·go_wp2_with fail
    refine (l1In_any _ _ _ _).mono ?_
    rintro r _ ⟨rfl, rfl⟩
    cases ib : inB b 0 255
    ·go_wp2_with fail
     go_meet
     case rel => exact ⟨⟨_, rfl, fun _ => HOK.out⟩, H3.out⟩
    ·cases at9 : (d.at_ == 1000000000)
     ·go_wp2_with fail
      go_meet
      case rel => exact ⟨⟨_, rfl, fun _ => HOK.out⟩, H3.out⟩
     ·go_wp2_with fail
      go_meet
      case rel => exact ⟨⟨_, rfl, fun _ => HOK.out⟩, H3.out⟩
   ·go_wp2_with fail
    go_meet
    case rel => exact ⟨⟨_, rfl, fun _ => HOK.out⟩, H3.out⟩
 case rest =>
  obtain ⟨⟨q, rfl, hgate⟩, hm3⟩ := hcut
  have HG := Lib.hid hgate; clear hgate
  have H3 := Lib.hid hm3; clear hm3 HM
  clear kA fA hBA kO fO hBO hOw
  have kA := box_cells H3.out.arg; have fA := box_frozen H3.out.arg; have hBA := box_lt H3.out.arg
  have kO := box_cells H3.out.box; have fO := box_frozen H3.out.box; have hBO := box_lt H3.out.box; have hOw := H3.out.hO
  cases q
  ·have HOK := Lib.hid (HG.out rfl); clear HG
   obtain ⟨hbits, hhave, hutf⟩ := decOk_st HOK.out
   have HBB := Lib.hid hbits; have HHH := Lib.hid hhave; have HUU := Lib.hid hutf; clear hbits hhave hutf
   go_upto_region 5 with fail
   obtain ⟨at2, hat⟩ : ∃ q, wrap64 (d.at_ + 1) = q := ⟨_, rfl⟩
   try simp only [hat]
   clear hat
   obtain ⟨w4, hw4⟩ : ∃ q, (wc.setCell ⟨O, 9, none⟩ (.int .i64 at2)) = q := ⟨_, rfl⟩
   rw [hw4]
   obtain ⟨x, hx_⟩ : ∃ q : Dc, ⟨d.p, d.mode, d.bits, d.have_, d.start, at2, d.field, d.wire, d.want, d.utf, d.end_⟩ = q := ⟨_, rfl⟩
   have hb_ : w4.heap[O]? = some (.cells (Dc.cl x (.slice a1 xs.length cap1) (.slice sa1 ls0.length scap1)).toArray 40 (0, 0)) := by rw [← hw4, ← hx_]; apply hset_eq; (repeat (first | (with_reducible exact H3.out.box) | (with_reducible apply hset_set) | (with_reducible apply hset_alloc))); simp only [List.setIfInBounds_toArray, List.set_cons_zero, List.set_cons_succ]
   have hxb : x.bits = d.bits ∧ x.have_ = d.have_ := by rw [← hx_]; exact ⟨rfl, rfl⟩
   rw [← hxb.1] at HBB; rw [← hxb.2] at HHH; clear hxb
   have H4 := Lib.hid (show StO w w4 O d x a0 cap0 sa0 scap0 ls0.length xs ls0 a1 cap1 rs1 sa1 scap1 from H3.out.upd (by rw [← hw4]; (repeat (first | (with_reducible refine only_cell ?_ _ _) | (with_reducible refine only_alloc ?_ _))); exact only_refl _ _) hb_); clear hb_ hw4 H3
   clear hx_
   clear kA fA hBA kO fO hBO hOw
   have kA := box_cells H4.out.arg; have fA := box_frozen H4.out.arg; have hBA := box_lt H4.out.arg
   have kO := box_cells H4.out.box; have fO := box_frozen H4.out.box; have hBO := box_lt H4.out.box; have hOw := H4.out.hO
   obtain ⟨L, hL⟩ : ∃ q, ls0.length = q := ⟨_, rfl⟩
   rw [hL] at kA kO ⊢
   have HL := Lib.hid hL; clear hL
   go_upto_if 41 with fail
   go_cut [] from 42 to 55 (fun wx => ∃ (ls : List Lvl) (sa : Option Addr) (scap : Nat), ls.length ≤ 8 ∧ StO w wx O d x a0 cap0 sa0 scap0 ls0.length xs ls a1 cap1 rs1 sa scap)
   case first =>
    rcases L with _ | m
    ·go_wp2_with fail
     go_meet
     case rel => exact ⟨ls0, sa1, scap1, h8, H4.out⟩
    ·have hml := HL.out
     obtain ⟨l, he⟩ : ∃ l, ls0[m]? = some l := ⟨_, List.getElem?_eq_getElem (by omega)⟩
     obtain ⟨g, rfl, hg0, hg1⟩ := own_pos H4.out.lv (by omega)
     obtain ⟨bq, oq, eq1, hlb, c0, c1⟩ := Lvls.at (lvls_of_own H4.out.lv rfl) he
     simp only [Option.some.injEq, Addr.mk.injEq, and_true] at eq1
     obtain ⟨rfl, rfl⟩ := eq1
     simp only [Nat.zero_add] at c1
     have hl0 : decide ((0 : Int) < (m : Int) + 1) = true := by first | (simp; done) | (simp; omega)
     have hmw : IntKind.i64.wrap (m : Int) = m := IntWalk.i64_in _ (by omega)
     have hm0 : (0 : Int) ≤ (m : Int) := by omega
     have hmlt : (m : Int) < (m : Int) + 1 := by omega
     have HML := Lib.hid hml; have HHE := Lib.hid he; clear hml he c0
     have hfzg : ∀ j, w4.frozen? ⟨g, j, none⟩ = false := H4.out.lv.frozenAt
     go_upto_region 7 with fail
     have cO5 := kO 5
     simp only [List.getElem?_toArray, List.getElem?_cons_zero, List.getElem?_cons_succ] at cO5
     refine wp_region_till (Cells [(⟨O, 5, none⟩, .slice (some ⟨g, 0, none⟩) (m + 1) scap1), (⟨g, m * 2 + 1, none⟩, .int .i64 l.left)]) (fun i => decide (12 ≤ i)) (by kernel_rfl) ?_
     have hS : Cells [(⟨O, 5, none⟩, .slice (some ⟨g, 0, none⟩) (m + 1) scap1), (⟨g, m * 2 + 1, none⟩, .int .i64 l.left)] w4.drew := cells_mk cO5 (cells_mk c1 (cells_no _))
     clear cO5
     clear kA fA hBA kO fO hBO hOw
     refine tk (i := 0) hS ?_
     refine tk (i := 1) hS ?_
     refine tk (i := 2) hS ?_
     refine tk (i := 3) hS ?_
     refine tk (i := 4) hS ?_
     refine tk (i := 5) hS ?_
     refine tk (i := 6) hS ?_
     refine tk (i := 7) hS ?_
     refine tk (i := 8) hS ?_
     refine tk (i := 9) hS ?_
     refine tk (i := 10) hS ?_
     refine tk (i := 11) hS ?_
     clear hS
     refine wpTill_op (i := 12) (by kernel_rfl) rfl (fun K hK => ?_)
     go_simp
     refine hK.out _ _ (fun e => by cases e) ?_
     clear hK K
     try simp only [List.getElem_toArray, List.getElem_cons_succ, List.getElem_cons_zero, Act.put, List.setIfInBounds_toArray, List.set_cons_zero, List.set_cons_succ]
     refine wpTill_op (i := 13) (by kernel_rfl) rfl (fun K hK => ?_)
     go_simp
     refine hK.out _ _ (fun e => by cases e) ?_
     clear hK K
     try simp only [List.getElem_toArray, List.getElem_cons_succ, List.getElem_cons_zero, Act.put, List.setIfInBounds_toArray, List.set_cons_zero, List.set_cons_succ]
     refine wpTill_op (i := 14) (by kernel_rfl) rfl (fun K hK => ?_)
     go_simp
     refine hK.out _ _ (fun e => by cases e) ?_
     clear hK K
     try simp only [List.getElem_toArray, List.getElem_cons_succ, List.getElem_cons_zero, Act.put, List.setIfInBounds_toArray, List.set_cons_zero, List.set_cons_succ]
     refine wpTill_done (by kernel_rfl) ?_ _
     go_wp2_with fail
     go_meet
     case rel =>
      refine ⟨ls0.set m ⟨l.msg, IntKind.i64.wrap (l.left - 1)⟩, some ⟨g, 0, none⟩, scap1, by rw [List.length_set]; omega, H4.out.lvs (g := g) (only_drew (only_set _ _ _ _)) (by rw [List.length_set]) ?_⟩
      rw [List.length_set, ← flat_setL HHE.out]; exact World.ownsRow.drew (H4.out.lv.stored (m * 2 + 1) _).1
   case rest =>
    obtain ⟨ls, sa, scap, hl8, hm5⟩ := hcut
    have H5 := Lib.hid hm5; clear hm5 H4
    clear kA fA hBA kO fO hBO hOw
    have kA := box_cells H5.out.arg; have fA := box_frozen H5.out.arg; have hBA := box_lt H5.out.arg
    have kO := box_cells H5.out.box; have fO := box_frozen H5.out.box; have hBO := box_lt H5.out.box; have hOw := H5.out.hO
    go_upto_region 8 with fail
    go_cut [68] from 56 to 68 (fun t wx => (∃ q : Bool, t = .bool q) ∧ StO w wx O d x a0 cap0 sa0 scap0 ls0.length xs ls a1 cap1 rs1 sa scap)
    case first =>
     cases m6 : (d.mode == 6)
     ·cases m7 : (d.mode == 7)
      ·cases m8 : (d.mode == 8)
       ·go_wp2_with fail
        go_meet
        case rel => exact ⟨⟨_, rfl⟩, H5.out⟩
       ·go_wp2_with fail
        go_meet
        case rel => exact ⟨⟨_, rfl⟩, H5.out⟩
      ·go_wp2_with fail
       go_meet
       case rel => exact ⟨⟨_, rfl⟩, H5.out⟩
     ·go_wp2_with fail
      go_meet
      case rel => exact ⟨⟨_, rfl⟩, H5.out⟩
    case rest =>
     obtain ⟨⟨q, rfl⟩, hm6⟩ := hcut
     have H6 := Lib.hid hm6; clear hm6 H5
     clear kA fA hBA kO fO hBO hOw
     have kA := box_cells H6.out.arg; have fA := box_frozen H6.out.arg; have hBA := box_lt H6.out.arg
     have kO := box_cells H6.out.box; have fO := box_frozen H6.out.box; have hBO := box_lt H6.out.box; have hOw := H6.out.hO
     go_upto_if 68 with fail
     go_cut [] from 69 to 72 (fun wx => ∃ y : Dc, (y.bits = x.bits ∧ y.have_ = x.have_) ∧ StO w wx O d y a0 cap0 sa0 scap0 ls0.length xs ls a1 cap1 rs1 sa scap)
     case first =>
      cases q
      ·go_wp2_with fail
       go_meet
       case rel => exact ⟨x, ⟨rfl, rfl⟩, H6.out⟩
      ·go_wp2_with fail
       go_meet
       case rel => exact ⟨⟨x.p, x.mode, x.bits, x.have_, x.start, x.at_, x.field, x.wire, wrap64 (d.want - 1), x.utf, x.end_⟩, ⟨rfl, rfl⟩, H6.out.upd (only_set _ _ _ _) (by apply hset_eq; (repeat (first | (with_reducible exact H6.out.box) | (with_reducible apply hset_set))); simp only [List.setIfInBounds_toArray, List.set_cons_zero, List.set_cons_succ])⟩
     case rest =>
      obtain ⟨y, hyx, hm7⟩ := hcut
      have H7 := Lib.hid hm7; clear hm7 H6
      clear kA fA hBA kO fO hBO hOw
      rw [← hyx.1] at HBB
      rw [← hyx.2] at HHH
      clear hyx
      have kA := box_cells H7.out.arg; have fA := box_frozen H7.out.arg; have hBA := box_lt H7.out.arg
      have kO := box_cells H7.out.box; have fO := box_frozen H7.out.box; have hBO := box_lt H7.out.box; have hOw := H7.out.hO
      go_wp2_with (first | ((with_reducible show wpList _ _ _ (⟨_, Op.load 40 _, _, _, _, _⟩ :: _) _ _); refine wlm w.heap.size (Dc.cl d (.slice a0 xs.length cap0) (.slice sa0 ls0.length scap0)) (range_of_box (t := 40) H7.out.arg) ?_))
      refine (specWidthD_any d a0 cap0 _ xs sa0 scap0 _ ls0 _ (HSs.out.keep H7.out.bel).shs (Sl.keep HSl.out H7.out.bel) rfl rfl hn hm (by omega)).mono ?_
      rintro r w8 ⟨rfl, hb8⟩
      have H8 := Lib.hid (H7.out.keep hb8); clear hb8 H7
      clear kA fA hBA kO fO hBO hOw
      have kA := box_cells H8.out.arg; have fA := box_frozen H8.out.arg; have hBA := box_lt H8.out.arg
      have kO := box_cells H8.out.box; have fO := box_frozen H8.out.box; have hBO := box_lt H8.out.box; have hOw := H8.out.hO
      cases m7 : (d.mode == 7)
      ·cases m6 : (d.mode == 6)
       ·by_cases hw : 0 < widthD d
        ·skip
         go_wp2_with (first | ((with_reducible show wpList _ _ _ (⟨_, Op.load 40 _, _, _, _, _⟩ :: _) _ _); refine wlm O (Dc.cl y (.slice a1 xs.length cap1) (.slice sa ls.length scap)) (range_of_box (t := 40) H8.out.box) ?_))
         refine (l16Fix_some y a1 cap1 rs1 xs sa scap ls (w.heap.size + 1 + 1) b (widthD d) _ H8.out.sh H8.out.lv (by have := H8.out.sz; omega) hl8 HBB.out HHH.out).mono ?_
         rintro r w9 ⟨e, ms, es, a9, cap9, rs9, sa9, scap9, ea, ecap, rfl, hs9, hp9, he9, hb9, hm8⟩
         have H9 := Lib.hid (H8.out.keep hb9); have P1 := Lib.hid hs9; have P2 := Lib.hid hp9; have P3 := Lib.hid he9; clear hs9 hp9 he9 hb9 H8
         go_wp2_with (first | ((with_reducible show wpList _ _ _ (⟨_, Op.store 40 _ _, _, _, _, _⟩ :: _) _ _); refine wsq (w.heap.size + 1) (Dc.cl e (.slice a9 xs.length cap9) (.slice sa9 ms.length scap9)).toArray (H9.out.res) (one_Dec _ _ _ _ _ _ _) ?_))
         have hzz := H9.out.bel.size
         exact StO.done Tryz.results113 H9.out P1.out P2.out P3.out (by omega) rfl rfl
        ·have hwn : decide (0 < widthD d) = false := by simp; omega
         go_wp2_with (first | ((with_reducible show wpList _ _ _ (⟨_, Op.load 40 _, _, _, _, _⟩ :: _) _ _); refine wlm O (Dc.cl y (.slice a1 xs.length cap1) (.slice sa ls.length scap)) (range_of_box (t := 40) H8.out.box) ?_))
         refine (l16Scan_some y a1 cap1 rs1 xs sa scap ls (w.heap.size + 1 + 1) b d.at_ _ H8.out.sh H8.out.lv (by have := H8.out.sz; omega) hl8 hn hm HBB.out HHH.out).mono ?_
         rintro r w9 ⟨e, ms, es, a9, cap9, rs9, sa9, scap9, ea, ecap, rfl, hs9, hp9, he9, hb9, hm8⟩
         have H9 := Lib.hid (H8.out.keep hb9); have P1 := Lib.hid hs9; have P2 := Lib.hid hp9; have P3 := Lib.hid he9; clear hs9 hp9 he9 hb9 H8
         go_wp2_with (first | ((with_reducible show wpList _ _ _ (⟨_, Op.store 40 _ _, _, _, _, _⟩ :: _) _ _); refine wsq (w.heap.size + 1) (Dc.cl e (.slice a9 xs.length cap9) (.slice sa9 ms.length scap9)).toArray (H9.out.res) (one_Dec _ _ _ _ _ _ _) ?_))
         have hzz := H9.out.bel.size
         exact StO.done Tryz.results113 H9.out P1.out P2.out P3.out (by omega) rfl rfl
       ·go_upto_region 14 with fail
        go_upto_if 90 with fail
        go_cut [9, 10] from 90 to 107 (fun _ _ wx => ∃ z : Dc, StO w wx O d z a0 cap0 sa0 scap0 ls0.length xs ls a1 cap1 rs1 sa scap)
        case first =>
         cases k6 : (d.field.kind == 6)
         ·go_wp2_with fail
          go_meet
          case rel => exact ⟨y, H8.out⟩
         ·go_wp2_with fail
          refine (utfByte_any d.utf b _ HUU.out).mono ?_
          rintro r w3 ⟨⟨u1, u2, u3⟩, ok, rfl, hu, hb3⟩
          have HZ := Lib.hid (H8.out.keep hb3); clear hb3 H8
          clear kA fA hBA kO fO hBO hOw
          have kA := box_cells HZ.out.arg; have fA := box_frozen HZ.out.arg; have hBA := box_lt HZ.out.arg
          have kO := box_cells HZ.out.box; have fO := box_frozen HZ.out.box; have hBO := box_lt HZ.out.box; have hOw := HZ.out.hO
          cases ok
          ·have hal : Below w3.heap.size w3 (w3.alloc (.cells #[.int .i64 u1, .int .i64 u2, .int .i64 u3] 36)) := (Below.refl _ _).alloc (Nat.le_refl _) _
           have HZa := Lib.hid (HZ.out.keep hal)
           go_wp2_with (first | ((with_reducible show wpList _ _ _ (⟨_, Op.load 40 _, _, _, _, _⟩ :: _) _ _); refine wlm O (Dc.cl y (.slice a1 xs.length cap1) (.slice sa ls.length scap)) (range_of_box (t := 40) HZa.out.box) ?_))
           refine (l15Fail_any y a1 cap1 xs.length sa scap ls.length 5 d.at_ _).mono ?_
           rintro r w9 ⟨ea, ecap, rfl, he9, hb9⟩
           obtain ⟨e, he⟩ : ∃ q, failD y 5 d.at_ = q := ⟨_, rfl⟩
           obtain ⟨fe, hfe⟩ : ∃ q, failE 5 d.at_ = q := ⟨_, rfl⟩
           rw [he]
           rw [hfe] at he9
           clear he hfe
           have hzw := HZa.out.sz; have hOw2 := HZa.out.hO
           have H9 := Lib.hid (HZa.out.keep hb9)
           have P3 := Lib.hid (show w9.ownsRow (w.heap.size + 1 + 1) 38 7 (.slice ea ([fe] : List Ev).length ecap) ([fe] : List Ev).length (([fe] : List Ev).flatMap Ev.cs) by have hq := owns_le he9 (show w.heap.size + 1 + 1 ≤ _ by omega); simpa using hq); clear he9 hb9 HZa
           go_wp2_with (first | ((with_reducible show wpList _ _ _ (⟨_, Op.store 40 _ _, _, _, _, _⟩ :: _) _ _); refine wsq (w.heap.size + 1) (Dc.cl e (.slice a1 xs.length cap1) (.slice sa ls.length scap)).toArray (H9.out.res) (one_Dec _ _ _ _ _ _ _) ?_))
           have hzz := H9.out.bel.size
           exact StO.done Tryz.results113 H9.out H9.out.sh H9.out.lv P3.out (by omega) rfl rfl
          ·go_wp2_with fail
           go_meet
           case rel => exact ⟨⟨y.p, y.mode, y.bits, y.have_, y.start, y.at_, y.field, y.wire, y.want, ⟨u1, u2, u3⟩, y.end_⟩, HZ.out.upd (by (repeat (first | (with_reducible refine only_cell ?_ _ _) | (with_reducible refine only_alloc ?_ _))); exact only_refl _ _) (by apply hset_eq; (repeat (first | (with_reducible exact HZ.out.box) | (with_reducible apply hset_set) | (with_reducible apply hset_alloc))); simp only [List.setIfInBounds_toArray, List.set_cons_zero, List.set_cons_succ])⟩
        case rest =>
         obtain ⟨z, hmz⟩ := hcut
         have HZ := Lib.hid hmz; clear hmz H8
         clear kA fA hBA kO fO hBO hOw
         have kA := box_cells HZ.out.arg; have fA := box_frozen HZ.out.arg; have hBA := box_lt HZ.out.arg
         have kO := box_cells HZ.out.box; have fO := box_frozen HZ.out.box; have hBO := box_lt HZ.out.box; have hOw := HZ.out.hO
         obtain ⟨txt, hcv⟩ : ∃ txt, (convert 22 9 (.slice (some ⟨wc.heap.size, 0, none⟩) 1 1)).run Tryz.prog (wc.alloc (.cells #[.int .u8 (b % 256)] 5)) = .ok (.string txt) (wc.alloc (.cells #[.int .u8 (b % 256)] 5)) := ⟨_, lit_string (wc.alloc (.cells #[.int .u8 (b % 256)] 5)) wc.heap.size 1 1 [b % 256] (src := 22) (dst := 9) (e := 5) 5 (hset_new rfl) (by intro x hx; simp only [List.mem_cons, List.not_mem_nil, or_false] at hx; omega) rfl Tryz.underlying22 Tryz.underlying5 Tryz.underlying9⟩
         go_wp2_with (first | ((with_reducible show wpList _ _ _ (⟨_, Op.load 40 _, _, _, _, _⟩ :: _) _ _); refine wlm O (Dc.cl z (.slice a1 xs.length cap1) (.slice sa ls.length scap)) (range_of_box (t := 40) HZ.out.box) ?_))
         refine (l15Tell_any z a1 cap1 _ sa scap ls ⟨4, 0, 0, 0, txt, 0, 0⟩ (w.heap.size + 1 + 1) (wc.alloc (.cells #[.int .u8 (b % 256)] 5)) (World.ownsRow.alloc HZ.out.lv _) (by have := HZ.out.sz; have := HZ.out.hO; simp; omega) hl8).mono ?_
         rintro r w9 ⟨sa9, scap9, ea, ecap, rfl, hp9, he9, hb9⟩
         obtain ⟨⟨e, ms, es⟩, hE⟩ : ∃ O, O = behind [⟨4, 0, 0, 0, txt, 0, 0⟩] (settle z ls) := ⟨_, rfl⟩
         have hm8 : ms.length ≤ 8 := by have h0 := (settle_len z ls).1; have e1 : (settle z ls).2.1 = ms := (congrArg (fun o : Outc => o.2.1) hE).symm; rw [e1] at h0; omega
         rw [← hE] at hp9 he9 ⊢
         clear hE
         have hzw := HZ.out.sz; have hOw2 := HZ.out.hO
         have H9 := Lib.hid ((HZ.out.keep (show Below _ _ _ from (Below.refl _ _).alloc (Nat.le_refl _) _)).keep hb9)
         try simp only [World.size_alloc] at he9
         have P2 := Lib.hid hp9; have P3 := Lib.hid (owns_le he9 (show w.heap.size + 1 + 1 ≤ _ by omega)); clear hp9 he9 hb9
         simp only
         go_wp2_with (first | ((with_reducible show wpList _ _ _ (⟨_, Op.store 40 _ _, _, _, _, _⟩ :: _) _ _); refine wsq (w.heap.size + 1) (Dc.cl e (.slice a1 xs.length cap1) (.slice sa9 ms.length scap9)).toArray (H9.out.res) (one_Dec _ _ _ _ _ _ _) ?_))
         have hzz := H9.out.bel.size
         exact StO.done Tryz.results113 H9.out H9.out.sh P2.out P3.out (by omega) rfl rfl
      ·skip
       go_wp2_with (first | ((with_reducible show wpList _ _ _ (⟨_, Op.load 40 _, _, _, _, _⟩ :: _) _ _); refine wlm O (Dc.cl y (.slice a1 xs.length cap1) (.slice sa ls.length scap)) (range_of_box (t := 40) H8.out.box) ?_))
       refine (l15Settle_any y a1 cap1 _ sa scap ls (w.heap.size + 1 + 1) _ H8.out.lv (by have := H8.out.sz; have := H8.out.hO; omega) hl8).mono ?_
       rintro r w9 ⟨sa9, scap9, ea, ecap, rfl, hp9, he9, hb9⟩
       obtain ⟨⟨e, ms, es⟩, hE⟩ : ∃ O, O = settle y ls := ⟨_, rfl⟩
       have hm8 : ms.length ≤ 8 := by have h0 := (settle_len y ls).1; have e1 : (settle y ls).2.1 = ms := (congrArg (fun o : Outc => o.2.1) hE).symm; rw [e1] at h0; omega
       rw [← hE] at hp9 he9 ⊢
       clear hE
       have hzw := H8.out.sz; have hOw2 := H8.out.hO
       have H9 := Lib.hid (H8.out.keep hb9)
       have P2 := Lib.hid hp9; have P3 := Lib.hid (owns_le he9 (show w.heap.size + 1 + 1 ≤ _ by omega)); clear hp9 he9 hb9
       simp only
       go_wp2_with (first | ((with_reducible show wpList _ _ _ (⟨_, Op.store 40 _ _, _, _, _, _⟩ :: _) _ _); refine wsq (w.heap.size + 1) (Dc.cl e (.slice a1 xs.length cap1) (.slice sa9 ms.length scap9)).toArray (H9.out.res) (one_Dec _ _ _ _ _ _ _) ?_))
       have hzz := H9.out.bel.size
       exact StO.done Tryz.results113 H9.out H9.out.sh P2.out P3.out (by omega) rfl rfl
  ·clear HG
   go_wp2_with (first | ((with_reducible show wpList _ _ _ (⟨_, Op.load 40 _, _, _, _, _⟩ :: _) _ _); refine wlm O (Dc.cl d (.slice a1 xs.length cap1) (.slice sa1 ls0.length scap1)) (range_of_box (t := 40) H3.out.box) ?_) | ((with_reducible show wpList _ _ _ (⟨_, Op.store 40 _ _, _, _, _, _⟩ :: _) _ _); refine wsq (w.heap.size + 1) (Dc.cl d (.slice a1 xs.length cap1) (.slice sa1 ls0.length scap1)).toArray (hset_alloc H3.out.res) (one_Dec _ _ _ _ _ _ _) ?_))
   have hka := Lib.hid (H3.out.keep ((Below.refl _ _).alloc (Nat.le_refl _) (.cells #[] 38)))
   have hzz := H3.out.bel.size
   exact StO.done (es := []) Tryz.results113 hka.out hka.out.sh hka.out.lv (owns_le (own_built _ 38 7) (by have := H3.out.sz; omega)) h8 rfl rfl
end Go.Proofs.YtabdjimjelfbfaaGreat

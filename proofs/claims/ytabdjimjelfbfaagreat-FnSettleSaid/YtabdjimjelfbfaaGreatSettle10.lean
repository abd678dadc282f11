/- Texts that FnSettle leans on, part 10. (Put together by wip/tools/bundle.py.) -/
import Derived.Test.YtabdjimjelfbfaaGreatSettle1
import Derived.Test.YtabdjimjelfbfaaGreatSettle2
import Derived.Test.YtabdjimjelfbfaaGreatSettle3
namespace Go.Proofs.YtabdjimjelfbfaaGreat
set_option linter.unusedSimpArgs false
set_option linter.unusedVariables false
open Go.ChangeShapes Go.WideShapes Go.ChangeAt Go.RowKit Go.BigFrame
set_option maxRecDepth 100000 in
set_option maxHeartbeats 8000000 in
theorem specDecOk_m1 (d : Dc) (a : Option Addr) (cap n : Nat) (xs : List Shp) (sa : Option Addr) (scap m : Nat) (ls : List Lvl) (w : World) (h : Shs w a xs) (h' : Lvls w sa ls) (hx : xs.length = n) (hl : ls.length = m) (hn : n ≤ 1048576) (hm : fldSum xs ≤ 1048576) (hm' : m ≤ 1048576) (h1 : planOk d.p xs = true) (h2 : inB d.mode 1 9 = true) (h3 : inB d.at_ 0 1000000000 = true) (h4 : inB d.start 0 d.at_ = true) (h5 : utfOk d.utf = true) (h6 : wireOk d.wire = true) (h7 : fieldIn d.field xs = true) (h8 : stackOk d n ls = true) (hM : d.mode = 1) (R : Bool) (hT : (endOk d && (wantOk d ls && (kindOk d && scanD d ls))) = R) :
  Calls Tryz.prog 30 #[d.val (.slice a n cap) (.slice sa m scap)] w fun r w' => r = .returned (.bool R) ∧ Below w.heap.size w w' := by
 have HL := Lib.hid hl; clear hl
 have HX := Lib.hid hx; clear hx
 have HSs := Lib.hid h; clear h
 have HSl := Lib.hid h'; clear h'
 have HT := Lib.hid hT; clear hT
 have HM0 := Lib.hid hM; clear hM
 have hxn : xs.length = n := HX.out
 have hne1 := run_neq_ev
 have hne2 := run_neq_fld
 go_enter Tryz.func30, Tryz.ntmps30
 go_wp2_with fail
 refine (specPlanOk_any a cap n d.p xs _ (HSs.out.keep bl) HX.out hn hm).mono ?_
 rintro r w1 ⟨rfl, hb1⟩
 have hz1 := hb1.size
 try simp only [World.size_alloc, World.size_setCell, World.size_drew] at hz1
 have hb1b : Below w.heap.size w w1 := by exact bl
 have kA := box_new0 hb1
 have hBA := box_lt0 hb1
 try simp only [World.size_alloc, World.size_setCell, World.size_drew] at kA
 try simp only [World.size_alloc, World.size_setCell, World.size_drew] at hBA
 clear hb1; have hb1 := hb1b; clear hb1b
 rw [h1]
 go_wp2_with (first | ((with_reducible show wpList _ _ _ (⟨_, Op.load 40 _, _, _, _, _⟩ :: _) _ _); first | (refine wla w.heap.size (Dc.cl d (.slice a n cap) (.slice sa m scap)) ?_) | (refine wlb w.heap.size (Dc.cl d (.slice a n cap) (.slice sa m scap)) ?_)))
 refine (l1In_any _ _ _ _).mono ?_
 rintro r wx2 ⟨rfl, rfl⟩
 rw [h2]
 go_wp2_with (first | ((with_reducible show wpList _ _ _ (⟨_, Op.load 40 _, _, _, _, _⟩ :: _) _ _); first | (refine wla w.heap.size (Dc.cl d (.slice a n cap) (.slice sa m scap)) ?_) | (refine wlb w.heap.size (Dc.cl d (.slice a n cap) (.slice sa m scap)) ?_)))
 refine (l1In_any _ _ _ _).mono ?_
 rintro r wx3 ⟨rfl, rfl⟩
 rw [h3]
 go_wp2_with (first | ((with_reducible show wpList _ _ _ (⟨_, Op.load 40 _, _, _, _, _⟩ :: _) _ _); first | (refine wla w.heap.size (Dc.cl d (.slice a n cap) (.slice sa m scap)) ?_) | (refine wlb w.heap.size (Dc.cl d (.slice a n cap) (.slice sa m scap)) ?_)))
 refine (l1In_any _ _ _ _).mono ?_
 rintro r wx4 ⟨rfl, rfl⟩
 rw [h4]
 go_wp2_with (first | ((with_reducible show wpList _ _ _ (⟨_, Op.load 40 _, _, _, _, _⟩ :: _) _ _); first | (refine wla w.heap.size (Dc.cl d (.slice a n cap) (.slice sa m scap)) ?_) | (refine wlb w.heap.size (Dc.cl d (.slice a n cap) (.slice sa m scap)) ?_)))
 refine (specUtfOk_any d.utf _).mono ?_
 rintro r w5 ⟨rfl, hb5⟩
 have hz5 := hb5.size
 try simp only [World.size_alloc, World.size_setCell, World.size_drew] at hz5
 have hb5b : Below w1.heap.size w1 w5 := by exact bl
 have kA_ := box_next hb5b hBA kA; clear kA
 have kA := kA_; clear kA_
 have hBA_ := Nat.lt_of_lt_of_le hBA hb5b.size; clear hBA; have hBA := hBA_; clear hBA_
 clear hb5; have hb5 := hb5b; clear hb5b
 rw [h5]
 go_wp2_with (first | ((with_reducible show wpList _ _ _ (⟨_, Op.load 40 _, _, _, _, _⟩ :: _) _ _); first | (refine wla w.heap.size (Dc.cl d (.slice a n cap) (.slice sa m scap)) ?_) | (refine wlb w.heap.size (Dc.cl d (.slice a n cap) (.slice sa m scap)) ?_)))
 refine (specWireOk_any _ _).mono ?_
 rintro r wx6 ⟨rfl, rfl⟩
 rw [h6]
 go_wp2_with (first | ((with_reducible show wpList _ _ _ (⟨_, Op.load 40 _, _, _, _, _⟩ :: _) _ _); first | (refine wla w.heap.size (Dc.cl d (.slice a n cap) (.slice sa m scap)) ?_) | (refine wlb w.heap.size (Dc.cl d (.slice a n cap) (.slice sa m scap)) ?_)))
 refine (specFieldOk_any d a cap n xs sa scap m ls _ (HSs.out.keep bl) (Sl.keep HSl.out bl) HX.out HL.out hn hm hm').mono ?_
 rintro r w7 ⟨rfl, hb7⟩
 have hz7 := hb7.size
 try simp only [World.size_alloc, World.size_setCell, World.size_drew] at hz7
 have hb7b : Below w5.heap.size w5 w7 := by exact bl
 have kA_ := box_next hb7b hBA kA; clear kA
 have kA := kA_; clear kA_
 have hBA_ := Nat.lt_of_lt_of_le hBA hb7b.size; clear hBA; have hBA := hBA_; clear hBA_
 clear hb7; have hb7 := hb7b; clear hb7b
 rw [h7]
 go_wp2_with (first | ((with_reducible show wpList _ _ _ (⟨_, Op.load 40 _, _, _, _, _⟩ :: _) _ _); first | (refine wla w.heap.size (Dc.cl d (.slice a n cap) (.slice sa m scap)) ?_) | (refine wlb w.heap.size (Dc.cl d (.slice a n cap) (.slice sa m scap)) ?_)))
 refine (specStackOk_any d a cap n xs sa scap m ls _ (HSs.out.keep bl) (Sl.keep HSl.out bl) HX.out HL.out hn hm hm').mono ?_
 rintro r w8 ⟨rfl, hb8⟩
 have hz8 := hb8.size
 try simp only [World.size_alloc, World.size_setCell, World.size_drew] at hz8
 have hb8b : Below w7.heap.size w7 w8 := by exact bl
 have kA_ := box_next hb8b hBA kA; clear kA
 have kA := kA_; clear kA_
 have hBA_ := Nat.lt_of_lt_of_le hBA hb8b.size; clear hBA; have hBA := hBA_; clear hBA_
 clear hb8; have hb8 := hb8b; clear hb8b
 rw [h8]
 have hM := HM0.out
 have e1 : (d.mode == 1) = true := by simp [hM]
 have e2 : (d.mode == 2) = false := by simp [hM]
 have e3 : (d.mode == 3) = false := by simp [hM]
 have e4 : (d.mode == 4) = false := by simp [hM]
 have e5 : (d.mode == 5) = false := by simp [hM]
 have e6 : (d.mode == 6) = false := by simp [hM]
 have e7 : (d.mode == 7) = false := by simp [hM]
 have e8 : (d.mode == 8) = false := by simp [hM]
 have e9 : (d.mode == 9) = false := by simp [hM]
 have b1 : (d.mode != 1) = false := by simp [hM]
 have b2 : (d.mode != 2) = true := by simp [hM]
 have b3 : (d.mode != 3) = true := by simp [hM]
 have b4 : (d.mode != 4) = true := by simp [hM]
 have b5 : (d.mode != 5) = true := by simp [hM]
 have b6 : (d.mode != 6) = true := by simp [hM]
 have b7 : (d.mode != 7) = true := by simp [hM]
 have b8 : (d.mode != 8) = true := by simp [hM]
 have b9 : (d.mode != 9) = true := by simp [hM]
 have i35 : inB d.mode 3 5 = false := by rw [hM]; rfl
 have hE0 : endOk d = sameEv ⟨d.end_.kind, d.end_.field, d.end_.bits, d.end_.len, d.end_.text, d.end_.code, d.end_.at_⟩ ⟨0, 0, 0, 0, ⟨#[]⟩, 0, 0⟩ := by simp only [endOk, hM]; rfl
 have hW0 : wantOk d ls = (d.want == 0) := by simp only [wantOk, hM]; rfl
 have hK0 : kindOk d = true := by simp only [kindOk, hM]; rfl
 rw [hE0, hW0, hK0] at HT
 clear hM hE0 hW0 hK0
 cases g1 : sameEv ⟨d.end_.kind, d.end_.field, d.end_.bits, d.end_.len, d.end_.text, d.end_.code, d.end_.at_⟩ ⟨0, 0, 0, 0, ⟨#[]⟩, 0, 0⟩
 ·skip
  have HB := Lib.hid (show false = R by rw [← HT.out]; simp only [g1, Bool.and_false, Bool.false_and, Bool.true_and, Bool.and_true, Bool.not_true, Bool.not_false, Bool.or_true, Bool.true_or, Bool.or_false, Bool.false_or])
  clear HT
  go_wp2_with (first | (go_at_call 51; refine (l1In_any _ _ _ _).mono ?_; rintro r wx ⟨rfl, rfl⟩; (try rw [i35])) | (go_at_call 63; refine (specWidthOf_any _ _).mono ?_; rintro r wx ⟨rfl, rfl⟩) | ((with_reducible show wpList _ _ _ (⟨_, Op.load 40 _, _, _, _, _⟩ :: _) _ _); first | (refine wla w.heap.size (Dc.cl d (.slice a n cap) (.slice sa m scap)) ?_) | (refine wlb w.heap.size (Dc.cl d (.slice a n cap) (.slice sa m scap)) ?_)))
  go_ret
  exact ⟨ret_bool HB.out, by exact bl⟩
 ·skip
  cases g3 : (d.want == 0)
  ·skip
   have HB := Lib.hid (show false = R by rw [← HT.out]; simp only [g1, g3, Bool.and_false, Bool.false_and, Bool.true_and, Bool.and_true, Bool.not_true, Bool.not_false, Bool.or_true, Bool.true_or, Bool.or_false, Bool.false_or])
   clear HT
   go_wp2_with (first | (go_at_call 51; refine (l1In_any _ _ _ _).mono ?_; rintro r wx ⟨rfl, rfl⟩; (try rw [i35])) | (go_at_call 63; refine (specWidthOf_any _ _).mono ?_; rintro r wx ⟨rfl, rfl⟩) | ((with_reducible show wpList _ _ _ (⟨_, Op.load 40 _, _, _, _, _⟩ :: _) _ _); first | (refine wla w.heap.size (Dc.cl d (.slice a n cap) (.slice sa m scap)) ?_) | (refine wlb w.heap.size (Dc.cl d (.slice a n cap) (.slice sa m scap)) ?_)))
   go_ret
   exact ⟨ret_bool HB.out, by exact bl⟩
  ·skip
   cases t6 : (d.field.kind == 6)
   all_goals
    go_wp2_with (first | (go_at_call 51; refine (l1In_any _ _ _ _).mono ?_; rintro r wx ⟨rfl, rfl⟩; (try rw [i35])) | (go_at_call 63; refine (specWidthOf_any _ _).mono ?_; rintro r wx ⟨rfl, rfl⟩) | ((with_reducible show wpList _ _ _ (⟨_, Op.load 40 _, _, _, _, _⟩ :: _) _ _); first | (refine wla w.heap.size (Dc.cl d (.slice a n cap) (.slice sa m scap)) ?_) | (refine wlb w.heap.size (Dc.cl d (.slice a n cap) (.slice sa m scap)) ?_)))
    all_goals
     refine (specScanD_any d a cap n xs sa scap m ls _ (HSs.out.keep bl) (Sl.keep HSl.out bl) HX.out HL.out hn hm hm').mono ?_
     rintro r w40 ⟨rfl, hb40⟩
     have HB := Lib.hid (show scanD d ls = R by rw [← HT.out]; simp only [g1, g3, Bool.and_false, Bool.false_and, Bool.true_and, Bool.and_true, Bool.not_true, Bool.not_false, Bool.or_true, Bool.true_or, Bool.or_false, Bool.false_or])
     clear HT
     rw [HB.out]
     go_wp2
     go_ret
     exact ⟨rfl, by exact bl⟩
set_option maxRecDepth 100000 in
set_option maxHeartbeats 8000000 in
theorem specDecOk_m2 (d : Dc) (a : Option Addr) (cap n : Nat) (xs : List Shp) (sa : Option Addr) (scap m : Nat) (ls : List Lvl) (w : World) (h : Shs w a xs) (h' : Lvls w sa ls) (hx : xs.length = n) (hl : ls.length = m) (hn : n ≤ 1048576) (hm : fldSum xs ≤ 1048576) (hm' : m ≤ 1048576) (h1 : planOk d.p xs = true) (h2 : inB d.mode 1 9 = true) (h3 : inB d.at_ 0 1000000000 = true) (h4 : inB d.start 0 d.at_ = true) (h5 : utfOk d.utf = true) (h6 : wireOk d.wire = true) (h7 : fieldIn d.field xs = true) (h8 : stackOk d n ls = true) (hM : d.mode = 2) (R : Bool) (hT : (endOk d && (wantOk d ls && (kindOk d && scanD d ls))) = R) :
  Calls Tryz.prog 30 #[d.val (.slice a n cap) (.slice sa m scap)] w fun r w' => r = .returned (.bool R) ∧ Below w.heap.size w w' := by
 have HL := Lib.hid hl; clear hl
 have HX := Lib.hid hx; clear hx
 have HSs := Lib.hid h; clear h
 have HSl := Lib.hid h'; clear h'
 have HT := Lib.hid hT; clear hT
 have HM0 := Lib.hid hM; clear hM
 have hxn : xs.length = n := HX.out
 have hne1 := run_neq_ev
 have hne2 := run_neq_fld
 go_enter Tryz.func30, Tryz.ntmps30
 go_wp2_with fail
 refine (specPlanOk_any a cap n d.p xs _ (HSs.out.keep bl) HX.out hn hm).mono ?_
 rintro r w1 ⟨rfl, hb1⟩
 have hz1 := hb1.size
 try simp only [World.size_alloc, World.size_setCell, World.size_drew] at hz1
 have hb1b : Below w.heap.size w w1 := by exact bl
 have kA := box_new0 hb1
 have hBA := box_lt0 hb1
 try simp only [World.size_alloc, World.size_setCell, World.size_drew] at kA
 try simp only [World.size_alloc, World.size_setCell, World.size_drew] at hBA
 clear hb1; have hb1 := hb1b; clear hb1b
 rw [h1]
 go_wp2_with (first | ((with_reducible show wpList _ _ _ (⟨_, Op.load 40 _, _, _, _, _⟩ :: _) _ _); first | (refine wla w.heap.size (Dc.cl d (.slice a n cap) (.slice sa m scap)) ?_) | (refine wlb w.heap.size (Dc.cl d (.slice a n cap) (.slice sa m scap)) ?_)))
 refine (l1In_any _ _ _ _).mono ?_
 rintro r wx2 ⟨rfl, rfl⟩
 rw [h2]
 go_wp2_with (first | ((with_reducible show wpList _ _ _ (⟨_, Op.load 40 _, _, _, _, _⟩ :: _) _ _); first | (refine wla w.heap.size (Dc.cl d (.slice a n cap) (.slice sa m scap)) ?_) | (refine wlb w.heap.size (Dc.cl d (.slice a n cap) (.slice sa m scap)) ?_)))
 refine (l1In_any _ _ _ _).mono ?_
 rintro r wx3 ⟨rfl, rfl⟩
 rw [h3]
 go_wp2_with (first | ((with_reducible show wpList _ _ _ (⟨_, Op.load 40 _, _, _, _, _⟩ :: _) _ _); first | (refine wla w.heap.size (Dc.cl d (.slice a n cap) (.slice sa m scap)) ?_) | (refine wlb w.heap.size (Dc.cl d (.slice a n cap) (.slice sa m scap)) ?_)))
 refine (l1In_any _ _ _ _).mono ?_
 rintro r wx4 ⟨rfl, rfl⟩
 rw [h4]
 go_wp2_with (first | ((with_reducible show wpList _ _ _ (⟨_, Op.load 40 _, _, _, _, _⟩ :: _) _ _); first | (refine wla w.heap.size (Dc.cl d (.slice a n cap) (.slice sa m scap)) ?_) | (refine wlb w.heap.size (Dc.cl d (.slice a n cap) (.slice sa m scap)) ?_)))
 refine (specUtfOk_any d.utf _).mono ?_
 rintro r w5 ⟨rfl, hb5⟩
 have hz5 := hb5.size
 try simp only [World.size_alloc, World.size_setCell, World.size_drew] at hz5
 have hb5b : Below w1.heap.size w1 w5 := by exact bl
 have kA_ := box_next hb5b hBA kA; clear kA
 have kA := kA_; clear kA_
 have hBA_ := Nat.lt_of_lt_of_le hBA hb5b.size; clear hBA; have hBA := hBA_; clear hBA_
 clear hb5; have hb5 := hb5b; clear hb5b
 rw [h5]
 go_wp2_with (first | ((with_reducible show wpList _ _ _ (⟨_, Op.load 40 _, _, _, _, _⟩ :: _) _ _); first | (refine wla w.heap.size (Dc.cl d (.slice a n cap) (.slice sa m scap)) ?_) | (refine wlb w.heap.size (Dc.cl d (.slice a n cap) (.slice sa m scap)) ?_)))
 refine (specWireOk_any _ _).mono ?_
 rintro r wx6 ⟨rfl, rfl⟩
 rw [h6]
 go_wp2_with (first | ((with_reducible show wpList _ _ _ (⟨_, Op.load 40 _, _, _, _, _⟩ :: _) _ _); first | (refine wla w.heap.size (Dc.cl d (.slice a n cap) (.slice sa m scap)) ?_) | (refine wlb w.heap.size (Dc.cl d (.slice a n cap) (.slice sa m scap)) ?_)))
 refine (specFieldOk_any d a cap n xs sa scap m ls _ (HSs.out.keep bl) (Sl.keep HSl.out bl) HX.out HL.out hn hm hm').mono ?_
 rintro r w7 ⟨rfl, hb7⟩
 have hz7 := hb7.size
 try simp only [World.size_alloc, World.size_setCell, World.size_drew] at hz7
 have hb7b : Below w5.heap.size w5 w7 := by exact bl
 have kA_ := box_next hb7b hBA kA; clear kA
 have kA := kA_; clear kA_
 have hBA_ := Nat.lt_of_lt_of_le hBA hb7b.size; clear hBA; have hBA := hBA_; clear hBA_
 clear hb7; have hb7 := hb7b; clear hb7b
 rw [h7]
 go_wp2_with (first | ((with_reducible show wpList _ _ _ (⟨_, Op.load 40 _, _, _, _, _⟩ :: _) _ _); first | (refine wla w.heap.size (Dc.cl d (.slice a n cap) (.slice sa m scap)) ?_) | (refine wlb w.heap.size (Dc.cl d (.slice a n cap) (.slice sa m scap)) ?_)))
 refine (specStackOk_any d a cap n xs sa scap m ls _ (HSs.out.keep bl) (Sl.keep HSl.out bl) HX.out HL.out hn hm hm').mono ?_
 rintro r w8 ⟨rfl, hb8⟩
 have hz8 := hb8.size
 try simp only [World.size_alloc, World.size_setCell, World.size_drew] at hz8
 have hb8b : Below w7.heap.size w7 w8 := by exact bl
 have kA_ := box_next hb8b hBA kA; clear kA
 have kA := kA_; clear kA_
 have hBA_ := Nat.lt_of_lt_of_le hBA hb8b.size; clear hBA; have hBA := hBA_; clear hBA_
 clear hb8; have hb8 := hb8b; clear hb8b
 rw [h8]
 have hM := HM0.out
 have e1 : (d.mode == 1) = false := by simp [hM]
 have e2 : (d.mode == 2) = true := by simp [hM]
 have e3 : (d.mode == 3) = false := by simp [hM]
 have e4 : (d.mode == 4) = false := by simp [hM]
 have e5 : (d.mode == 5) = false := by simp [hM]
 have e6 : (d.mode == 6) = false := by simp [hM]
 have e7 : (d.mode == 7) = false := by simp [hM]
 have e8 : (d.mode == 8) = false := by simp [hM]
 have e9 : (d.mode == 9) = false := by simp [hM]
 have b1 : (d.mode != 1) = true := by simp [hM]
 have b2 : (d.mode != 2) = false := by simp [hM]
 have b3 : (d.mode != 3) = true := by simp [hM]
 have b4 : (d.mode != 4) = true := by simp [hM]
 have b5 : (d.mode != 5) = true := by simp [hM]
 have b6 : (d.mode != 6) = true := by simp [hM]
 have b7 : (d.mode != 7) = true := by simp [hM]
 have b8 : (d.mode != 8) = true := by simp [hM]
 have b9 : (d.mode != 9) = true := by simp [hM]
 have i35 : inB d.mode 3 5 = false := by rw [hM]; rfl
 have hE0 : endOk d = sameEv ⟨d.end_.kind, d.end_.field, d.end_.bits, d.end_.len, d.end_.text, d.end_.code, d.end_.at_⟩ ⟨0, 0, 0, 0, ⟨#[]⟩, 0, 0⟩ := by simp only [endOk, hM]; rfl
 have hW0 : wantOk d ls = (d.want == 0) := by simp only [wantOk, hM]; rfl
 have hK0 : kindOk d = true := by simp only [kindOk, hM]; rfl
 rw [hE0, hW0, hK0] at HT
 clear hM hE0 hW0 hK0
 cases g1 : sameEv ⟨d.end_.kind, d.end_.field, d.end_.bits, d.end_.len, d.end_.text, d.end_.code, d.end_.at_⟩ ⟨0, 0, 0, 0, ⟨#[]⟩, 0, 0⟩
 ·skip
  have HB := Lib.hid (show false = R by rw [← HT.out]; simp only [g1, Bool.and_false, Bool.false_and, Bool.true_and, Bool.and_true, Bool.not_true, Bool.not_false, Bool.or_true, Bool.true_or, Bool.or_false, Bool.false_or])
  clear HT
  go_wp2_with (first | (go_at_call 51; refine (l1In_any _ _ _ _).mono ?_; rintro r wx ⟨rfl, rfl⟩; (try rw [i35])) | (go_at_call 63; refine (specWidthOf_any _ _).mono ?_; rintro r wx ⟨rfl, rfl⟩) | ((with_reducible show wpList _ _ _ (⟨_, Op.load 40 _, _, _, _, _⟩ :: _) _ _); first | (refine wla w.heap.size (Dc.cl d (.slice a n cap) (.slice sa m scap)) ?_) | (refine wlb w.heap.size (Dc.cl d (.slice a n cap) (.slice sa m scap)) ?_)))
  go_ret
  exact ⟨ret_bool HB.out, by exact bl⟩
 ·skip
  cases g3 : (d.want == 0)
  ·skip
   have HB := Lib.hid (show false = R by rw [← HT.out]; simp only [g1, g3, Bool.and_false, Bool.false_and, Bool.true_and, Bool.and_true, Bool.not_true, Bool.not_false, Bool.or_true, Bool.true_or, Bool.or_false, Bool.false_or])
   clear HT
   go_wp2_with (first | (go_at_call 51; refine (l1In_any _ _ _ _).mono ?_; rintro r wx ⟨rfl, rfl⟩; (try rw [i35])) | (go_at_call 63; refine (specWidthOf_any _ _).mono ?_; rintro r wx ⟨rfl, rfl⟩) | ((with_reducible show wpList _ _ _ (⟨_, Op.load 40 _, _, _, _, _⟩ :: _) _ _); first | (refine wla w.heap.size (Dc.cl d (.slice a n cap) (.slice sa m scap)) ?_) | (refine wlb w.heap.size (Dc.cl d (.slice a n cap) (.slice sa m scap)) ?_)))
   go_ret
   exact ⟨ret_bool HB.out, by exact bl⟩
  ·skip
   cases t6 : (d.field.kind == 6)
   all_goals
    go_wp2_with (first | (go_at_call 51; refine (l1In_any _ _ _ _).mono ?_; rintro r wx ⟨rfl, rfl⟩; (try rw [i35])) | (go_at_call 63; refine (specWidthOf_any _ _).mono ?_; rintro r wx ⟨rfl, rfl⟩) | ((with_reducible show wpList _ _ _ (⟨_, Op.load 40 _, _, _, _, _⟩ :: _) _ _); first | (refine wla w.heap.size (Dc.cl d (.slice a n cap) (.slice sa m scap)) ?_) | (refine wlb w.heap.size (Dc.cl d (.slice a n cap) (.slice sa m scap)) ?_)))
    all_goals
     refine (specScanD_any d a cap n xs sa scap m ls _ (HSs.out.keep bl) (Sl.keep HSl.out bl) HX.out HL.out hn hm hm').mono ?_
     rintro r w40 ⟨rfl, hb40⟩
     have HB := Lib.hid (show scanD d ls = R by rw [← HT.out]; simp only [g1, g3, Bool.and_false, Bool.false_and, Bool.true_and, Bool.and_true, Bool.not_true, Bool.not_false, Bool.or_true, Bool.true_or, Bool.or_false, Bool.false_or])
     clear HT
     rw [HB.out]
     go_wp2
     go_ret
     exact ⟨rfl, by exact bl⟩
set_option maxRecDepth 100000 in
set_option maxHeartbeats 8000000 in
theorem specDecOk_m5 (d : Dc) (a : Option Addr) (cap n : Nat) (xs : List Shp) (sa : Option Addr) (scap m : Nat) (ls : List Lvl) (w : World) (h : Shs w a xs) (h' : Lvls w sa ls) (hx : xs.length = n) (hl : ls.length = m) (hn : n ≤ 1048576) (hm : fldSum xs ≤ 1048576) (hm' : m ≤ 1048576) (h1 : planOk d.p xs = true) (h2 : inB d.mode 1 9 = true) (h3 : inB d.at_ 0 1000000000 = true) (h4 : inB d.start 0 d.at_ = true) (h5 : utfOk d.utf = true) (h6 : wireOk d.wire = true) (h7 : fieldIn d.field xs = true) (h8 : stackOk d n ls = true) (hM : d.mode = 5) (R : Bool) (hT : (endOk d && (wantOk d ls && (kindOk d && scanD d ls))) = R) :
  Calls Tryz.prog 30 #[d.val (.slice a n cap) (.slice sa m scap)] w fun r w' => r = .returned (.bool R) ∧ Below w.heap.size w w' := by
 have HL := Lib.hid hl; clear hl
 have HX := Lib.hid hx; clear hx
 have HSs := Lib.hid h; clear h
 have HSl := Lib.hid h'; clear h'
 have HT := Lib.hid hT; clear hT
 have HM0 := Lib.hid hM; clear hM
 have hxn : xs.length = n := HX.out
 have hne1 := run_neq_ev
 have hne2 := run_neq_fld
 go_enter Tryz.func30, Tryz.ntmps30
 go_wp2_with fail
 refine (specPlanOk_any a cap n d.p xs _ (HSs.out.keep bl) HX.out hn hm).mono ?_
 rintro r w1 ⟨rfl, hb1⟩
 have hz1 := hb1.size
 try simp only [World.size_alloc, World.size_setCell, World.size_drew] at hz1
 have hb1b : Below w.heap.size w w1 := by exact bl
 have kA := box_new0 hb1
 have hBA := box_lt0 hb1
 try simp only [World.size_alloc, World.size_setCell, World.size_drew] at kA
 try simp only [World.size_alloc, World.size_setCell, World.size_drew] at hBA
 clear hb1; have hb1 := hb1b; clear hb1b
 rw [h1]
 go_wp2_with (first | ((with_reducible show wpList _ _ _ (⟨_, Op.load 40 _, _, _, _, _⟩ :: _) _ _); first | (refine wla w.heap.size (Dc.cl d (.slice a n cap) (.slice sa m scap)) ?_) | (refine wlb w.heap.size (Dc.cl d (.slice a n cap) (.slice sa m scap)) ?_)))
 refine (l1In_any _ _ _ _).mono ?_
 rintro r wx2 ⟨rfl, rfl⟩
 rw [h2]
 go_wp2_with (first | ((with_reducible show wpList _ _ _ (⟨_, Op.load 40 _, _, _, _, _⟩ :: _) _ _); first | (refine wla w.heap.size (Dc.cl d (.slice a n cap) (.slice sa m scap)) ?_) | (refine wlb w.heap.size (Dc.cl d (.slice a n cap) (.slice sa m scap)) ?_)))
 refine (l1In_any _ _ _ _).mono ?_
 rintro r wx3 ⟨rfl, rfl⟩
 rw [h3]
 go_wp2_with (first | ((with_reducible show wpList _ _ _ (⟨_, Op.load 40 _, _, _, _, _⟩ :: _) _ _); first | (refine wla w.heap.size (Dc.cl d (.slice a n cap) (.slice sa m scap)) ?_) | (refine wlb w.heap.size (Dc.cl d (.slice a n cap) (.slice sa m scap)) ?_)))
 refine (l1In_any _ _ _ _).mono ?_
 rintro r wx4 ⟨rfl, rfl⟩
 rw [h4]
 go_wp2_with (first | ((with_reducible show wpList _ _ _ (⟨_, Op.load 40 _, _, _, _, _⟩ :: _) _ _); first | (refine wla w.heap.size (Dc.cl d (.slice a n cap) (.slice sa m scap)) ?_) | (refine wlb w.heap.size (Dc.cl d (.slice a n cap) (.slice sa m scap)) ?_)))
 refine (specUtfOk_any d.utf _).mono ?_
 rintro r w5 ⟨rfl, hb5⟩
 have hz5 := hb5.size
 try simp only [World.size_alloc, World.size_setCell, World.size_drew] at hz5
 have hb5b : Below w1.heap.size w1 w5 := by exact bl
 have kA_ := box_next hb5b hBA kA; clear kA
 have kA := kA_; clear kA_
 have hBA_ := Nat.lt_of_lt_of_le hBA hb5b.size; clear hBA; have hBA := hBA_; clear hBA_
 clear hb5; have hb5 := hb5b; clear hb5b
 rw [h5]
 go_wp2_with (first | ((with_reducible show wpList _ _ _ (⟨_, Op.load 40 _, _, _, _, _⟩ :: _) _ _); first | (refine wla w.heap.size (Dc.cl d (.slice a n cap) (.slice sa m scap)) ?_) | (refine wlb w.heap.size (Dc.cl d (.slice a n cap) (.slice sa m scap)) ?_)))
 refine (specWireOk_any _ _).mono ?_
 rintro r wx6 ⟨rfl, rfl⟩
 rw [h6]
 go_wp2_with (first | ((with_reducible show wpList _ _ _ (⟨_, Op.load 40 _, _, _, _, _⟩ :: _) _ _); first | (refine wla w.heap.size (Dc.cl d (.slice a n cap) (.slice sa m scap)) ?_) | (refine wlb w.heap.size (Dc.cl d (.slice a n cap) (.slice sa m scap)) ?_)))
 refine (specFieldOk_any d a cap n xs sa scap m ls _ (HSs.out.keep bl) (Sl.keep HSl.out bl) HX.out HL.out hn hm hm').mono ?_
 rintro r w7 ⟨rfl, hb7⟩
 have hz7 := hb7.size
 try simp only [World.size_alloc, World.size_setCell, World.size_drew] at hz7
 have hb7b : Below w5.heap.size w5 w7 := by exact bl
 have kA_ := box_next hb7b hBA kA; clear kA
 have kA := kA_; clear kA_
 have hBA_ := Nat.lt_of_lt_of_le hBA hb7b.size; clear hBA; have hBA := hBA_; clear hBA_
 clear hb7; have hb7 := hb7b; clear hb7b
 rw [h7]
 go_wp2_with (first | ((with_reducible show wpList _ _ _ (⟨_, Op.load 40 _, _, _, _, _⟩ :: _) _ _); first | (refine wla w.heap.size (Dc.cl d (.slice a n cap) (.slice sa m scap)) ?_) | (refine wlb w.heap.size (Dc.cl d (.slice a n cap) (.slice sa m scap)) ?_)))
 refine (specStackOk_any d a cap n xs sa scap m ls _ (HSs.out.keep bl) (Sl.keep HSl.out bl) HX.out HL.out hn hm hm').mono ?_
 rintro r w8 ⟨rfl, hb8⟩
 have hz8 := hb8.size
 try simp only [World.size_alloc, World.size_setCell, World.size_drew] at hz8
 have hb8b : Below w7.heap.size w7 w8 := by exact bl
 have kA_ := box_next hb8b hBA kA; clear kA
 have kA := kA_; clear kA_
 have hBA_ := Nat.lt_of_lt_of_le hBA hb8b.size; clear hBA; have hBA := hBA_; clear hBA_
 clear hb8; have hb8 := hb8b; clear hb8b
 rw [h8]
 have hM := HM0.out
 have e1 : (d.mode == 1) = false := by simp [hM]
 have e2 : (d.mode == 2) = false := by simp [hM]
 have e3 : (d.mode == 3) = false := by simp [hM]
 have e4 : (d.mode == 4) = false := by simp [hM]
 have e5 : (d.mode == 5) = true := by simp [hM]
 have e6 : (d.mode == 6) = false := by simp [hM]
 have e7 : (d.mode == 7) = false := by simp [hM]
 have e8 : (d.mode == 8) = false := by simp [hM]
 have e9 : (d.mode == 9) = false := by simp [hM]
 have b1 : (d.mode != 1) = true := by simp [hM]
 have b2 : (d.mode != 2) = true := by simp [hM]
 have b3 : (d.mode != 3) = true := by simp [hM]
 have b4 : (d.mode != 4) = true := by simp [hM]
 have b5 : (d.mode != 5) = false := by simp [hM]
 have b6 : (d.mode != 6) = true := by simp [hM]
 have b7 : (d.mode != 7) = true := by simp [hM]
 have b8 : (d.mode != 8) = true := by simp [hM]
 have b9 : (d.mode != 9) = true := by simp [hM]
 have i35 : inB d.mode 3 5 = true := by rw [hM]; rfl
 have hE0 : endOk d = sameEv ⟨d.end_.kind, d.end_.field, d.end_.bits, d.end_.len, d.end_.text, d.end_.code, d.end_.at_⟩ ⟨0, 0, 0, 0, ⟨#[]⟩, 0, 0⟩ := by simp only [endOk, hM]; rfl
 have hW0 : wantOk d ls = (d.want == 0) := by simp only [wantOk, hM]; rfl
 have hK0 : kindOk d = (!(widthOf d.wire == 0) && (sameF ⟨d.field.number, d.field.kind, d.field.rep, d.field.packed, d.field.msg⟩ ⟨0, 0, false, false, 0⟩ || allowed d.field d.wire)) := by simp only [kindOk, hM]; rfl
 rw [hE0, hW0, hK0] at HT
 clear hM hE0 hW0 hK0
 cases g1 : sameEv ⟨d.end_.kind, d.end_.field, d.end_.bits, d.end_.len, d.end_.text, d.end_.code, d.end_.at_⟩ ⟨0, 0, 0, 0, ⟨#[]⟩, 0, 0⟩
 ·skip
  have HB := Lib.hid (show false = R by rw [← HT.out]; simp only [g1, Bool.and_false, Bool.false_and, Bool.true_and, Bool.and_true, Bool.not_true, Bool.not_false, Bool.or_true, Bool.true_or, Bool.or_false, Bool.false_or])
  clear HT
  go_wp2_with (first | (go_at_call 51; refine (l1In_any _ _ _ _).mono ?_; rintro r wx ⟨rfl, rfl⟩; (try rw [i35])) | (go_at_call 63; refine (specWidthOf_any _ _).mono ?_; rintro r wx ⟨rfl, rfl⟩) | ((with_reducible show wpList _ _ _ (⟨_, Op.load 40 _, _, _, _, _⟩ :: _) _ _); first | (refine wla w.heap.size (Dc.cl d (.slice a n cap) (.slice sa m scap)) ?_) | (refine wlb w.heap.size (Dc.cl d (.slice a n cap) (.slice sa m scap)) ?_)))
  go_ret
  exact ⟨ret_bool HB.out, by exact bl⟩
 ·skip
  cases g3 : (d.want == 0)
  ·skip
   have HB := Lib.hid (show false = R by rw [← HT.out]; simp only [g1, g3, Bool.and_false, Bool.false_and, Bool.true_and, Bool.and_true, Bool.not_true, Bool.not_false, Bool.or_true, Bool.true_or, Bool.or_false, Bool.false_or])
   clear HT
   go_wp2_with (first | (go_at_call 51; refine (l1In_any _ _ _ _).mono ?_; rintro r wx ⟨rfl, rfl⟩; (try rw [i35])) | (go_at_call 63; refine (specWidthOf_any _ _).mono ?_; rintro r wx ⟨rfl, rfl⟩) | ((with_reducible show wpList _ _ _ (⟨_, Op.load 40 _, _, _, _, _⟩ :: _) _ _); first | (refine wla w.heap.size (Dc.cl d (.slice a n cap) (.slice sa m scap)) ?_) | (refine wlb w.heap.size (Dc.cl d (.slice a n cap) (.slice sa m scap)) ?_)))
   go_ret
   exact ⟨ret_bool HB.out, by exact bl⟩
  ·skip
   have hk4 : (widthOf d.wire == 0) = true ∨ (widthOf d.wire == 0) = false := by cases (widthOf d.wire == 0) <;> simp
   rcases hk4 with g4 | g4
   ·have g4b : (widthOf d.wire != 0) = false := by simp only [bne, g4, Bool.not_true, Bool.not_false]
    have HB := Lib.hid (show false = R by rw [← HT.out]; simp only [g1, g3, g4, Bool.and_false, Bool.false_and, Bool.true_and, Bool.and_true, Bool.not_true, Bool.not_false, Bool.or_true, Bool.true_or, Bool.or_false, Bool.false_or])
    clear HT
    go_wp2_with (first | (go_at_call 51; refine (l1In_any _ _ _ _).mono ?_; rintro r wx ⟨rfl, rfl⟩; (try rw [i35])) | (go_at_call 63; refine (specWidthOf_any _ _).mono ?_; rintro r wx ⟨rfl, rfl⟩) | ((with_reducible show wpList _ _ _ (⟨_, Op.load 40 _, _, _, _, _⟩ :: _) _ _); first | (refine wla w.heap.size (Dc.cl d (.slice a n cap) (.slice sa m scap)) ?_) | (refine wlb w.heap.size (Dc.cl d (.slice a n cap) (.slice sa m scap)) ?_)))
    go_ret
    exact ⟨ret_bool HB.out, by exact bl⟩
   ·have g4b : (widthOf d.wire != 0) = true := by simp only [bne, g4, Bool.not_true, Bool.not_false]
    cases gF : sameF ⟨d.field.number, d.field.kind, d.field.rep, d.field.packed, d.field.msg⟩ ⟨0, 0, false, false, 0⟩
    ·skip
     go_wp2_with (first | (go_at_call 51; refine (l1In_any _ _ _ _).mono ?_; rintro r wx ⟨rfl, rfl⟩; (try rw [i35])) | (go_at_call 63; refine (specWidthOf_any _ _).mono ?_; rintro r wx ⟨rfl, rfl⟩) | ((with_reducible show wpList _ _ _ (⟨_, Op.load 40 _, _, _, _, _⟩ :: _) _ _); first | (refine wla w.heap.size (Dc.cl d (.slice a n cap) (.slice sa m scap)) ?_) | (refine wlb w.heap.size (Dc.cl d (.slice a n cap) (.slice sa m scap)) ?_)))
     refine (specAllowed_any d.field d.wire _ h6).mono ?_
     rintro r w20 ⟨rfl, hb20⟩
     have hz20 := hb20.size
     try simp only [World.size_alloc, World.size_setCell, World.size_drew] at hz20
     have hb20b : Below w8.heap.size w8 w20 := by exact bl
     have kA_ := box_next hb20b hBA kA; clear kA
     have kA := kA_; clear kA_
     have hBA_ := Nat.lt_of_lt_of_le hBA hb20b.size; clear hBA; have hBA := hBA_; clear hBA_
     clear hb20; have hb20 := hb20b; clear hb20b
     cases gA : allowed d.field d.wire
     ·skip
      have HB := Lib.hid (show false = R by rw [← HT.out]; simp only [g1, g3, g4, gF, gA, Bool.and_false, Bool.false_and, Bool.true_and, Bool.and_true, Bool.not_true, Bool.not_false, Bool.or_true, Bool.true_or, Bool.or_false, Bool.false_or])
      clear HT
      go_wp2_with (first | (go_at_call 51; refine (l1In_any _ _ _ _).mono ?_; rintro r wx ⟨rfl, rfl⟩; (try rw [i35])) | (go_at_call 63; refine (specWidthOf_any _ _).mono ?_; rintro r wx ⟨rfl, rfl⟩) | ((with_reducible show wpList _ _ _ (⟨_, Op.load 40 _, _, _, _, _⟩ :: _) _ _); first | (refine wla w.heap.size (Dc.cl d (.slice a n cap) (.slice sa m scap)) ?_) | (refine wlb w.heap.size (Dc.cl d (.slice a n cap) (.slice sa m scap)) ?_)))
      go_ret
      exact ⟨ret_bool HB.out, by exact bl⟩
     ·skip
      cases t6 : (d.field.kind == 6)
      all_goals
       go_wp2_with (first | (go_at_call 51; refine (l1In_any _ _ _ _).mono ?_; rintro r wx ⟨rfl, rfl⟩; (try rw [i35])) | (go_at_call 63; refine (specWidthOf_any _ _).mono ?_; rintro r wx ⟨rfl, rfl⟩) | ((with_reducible show wpList _ _ _ (⟨_, Op.load 40 _, _, _, _, _⟩ :: _) _ _); first | (refine wla w.heap.size (Dc.cl d (.slice a n cap) (.slice sa m scap)) ?_) | (refine wlb w.heap.size (Dc.cl d (.slice a n cap) (.slice sa m scap)) ?_)))
       all_goals
        refine (specScanD_any d a cap n xs sa scap m ls _ (HSs.out.keep bl) (Sl.keep HSl.out bl) HX.out HL.out hn hm hm').mono ?_
        rintro r w40 ⟨rfl, hb40⟩
        have HB := Lib.hid (show scanD d ls = R by rw [← HT.out]; simp only [g1, g3, g4, gF, gA, Bool.and_false, Bool.false_and, Bool.true_and, Bool.and_true, Bool.not_true, Bool.not_false, Bool.or_true, Bool.true_or, Bool.or_false, Bool.false_or])
        clear HT
        rw [HB.out]
        go_wp2
        go_ret
        exact ⟨rfl, by exact bl⟩
    ·skip
     cases t6 : (d.field.kind == 6)
     all_goals
      go_wp2_with (first | (go_at_call 51; refine (l1In_any _ _ _ _).mono ?_; rintro r wx ⟨rfl, rfl⟩; (try rw [i35])) | (go_at_call 63; refine (specWidthOf_any _ _).mono ?_; rintro r wx ⟨rfl, rfl⟩) | ((with_reducible show wpList _ _ _ (⟨_, Op.load 40 _, _, _, _, _⟩ :: _) _ _); first | (refine wla w.heap.size (Dc.cl d (.slice a n cap) (.slice sa m scap)) ?_) | (refine wlb w.heap.size (Dc.cl d (.slice a n cap) (.slice sa m scap)) ?_)))
      all_goals
       refine (specScanD_any d a cap n xs sa scap m ls _ (HSs.out.keep bl) (Sl.keep HSl.out bl) HX.out HL.out hn hm hm').mono ?_
       rintro r w40 ⟨rfl, hb40⟩
       have HB := Lib.hid (show scanD d ls = R by rw [← HT.out]; simp only [g1, g3, g4, gF, Bool.and_false, Bool.false_and, Bool.true_and, Bool.and_true, Bool.not_true, Bool.not_false, Bool.or_true, Bool.true_or, Bool.or_false, Bool.false_or])
       clear HT
       rw [HB.out]
       go_wp2
       go_ret
       exact ⟨rfl, by exact bl⟩
set_option maxRecDepth 100000 in
set_option maxHeartbeats 8000000 in
theorem specDecOk_m3 (d : Dc) (a : Option Addr) (cap n : Nat) (xs : List Shp) (sa : Option Addr) (scap m : Nat) (ls : List Lvl) (w : World) (h : Shs w a xs) (h' : Lvls w sa ls) (hx : xs.length = n) (hl : ls.length = m) (hn : n ≤ 1048576) (hm : fldSum xs ≤ 1048576) (hm' : m ≤ 1048576) (h1 : planOk d.p xs = true) (h2 : inB d.mode 1 9 = true) (h3 : inB d.at_ 0 1000000000 = true) (h4 : inB d.start 0 d.at_ = true) (h5 : utfOk d.utf = true) (h6 : wireOk d.wire = true) (h7 : fieldIn d.field xs = true) (h8 : stackOk d n ls = true) (hM : d.mode = 3) (R : Bool) (hT : (endOk d && (wantOk d ls && (kindOk d && scanD d ls))) = R) :
  Calls Tryz.prog 30 #[d.val (.slice a n cap) (.slice sa m scap)] w fun r w' => r = .returned (.bool R) ∧ Below w.heap.size w w' := by
 have HL := Lib.hid hl; clear hl
 have HX := Lib.hid hx; clear hx
 have HSs := Lib.hid h; clear h
 have HSl := Lib.hid h'; clear h'
 have HT := Lib.hid hT; clear hT
 have HM0 := Lib.hid hM; clear hM
 have hxn : xs.length = n := HX.out
 have hne1 := run_neq_ev
 have hne2 := run_neq_fld
 go_enter Tryz.func30, Tryz.ntmps30
 go_wp2_with fail
 refine (specPlanOk_any a cap n d.p xs _ (HSs.out.keep bl) HX.out hn hm).mono ?_
 rintro r w1 ⟨rfl, hb1⟩
 have hz1 := hb1.size
 try simp only [World.size_alloc, World.size_setCell, World.size_drew] at hz1
 have hb1b : Below w.heap.size w w1 := by exact bl
 have kA := box_new0 hb1
 have hBA := box_lt0 hb1
 try simp only [World.size_alloc, World.size_setCell, World.size_drew] at kA
 try simp only [World.size_alloc, World.size_setCell, World.size_drew] at hBA
 clear hb1; have hb1 := hb1b; clear hb1b
 rw [h1]
 go_wp2_with (first | ((with_reducible show wpList _ _ _ (⟨_, Op.load 40 _, _, _, _, _⟩ :: _) _ _); first | (refine wla w.heap.size (Dc.cl d (.slice a n cap) (.slice sa m scap)) ?_) | (refine wlb w.heap.size (Dc.cl d (.slice a n cap) (.slice sa m scap)) ?_)))
 refine (l1In_any _ _ _ _).mono ?_
 rintro r wx2 ⟨rfl, rfl⟩
 rw [h2]
 go_wp2_with (first | ((with_reducible show wpList _ _ _ (⟨_, Op.load 40 _, _, _, _, _⟩ :: _) _ _); first | (refine wla w.heap.size (Dc.cl d (.slice a n cap) (.slice sa m scap)) ?_) | (refine wlb w.heap.size (Dc.cl d (.slice a n cap) (.slice sa m scap)) ?_)))
 refine (l1In_any _ _ _ _).mono ?_
 rintro r wx3 ⟨rfl, rfl⟩
 rw [h3]
 go_wp2_with (first | ((with_reducible show wpList _ _ _ (⟨_, Op.load 40 _, _, _, _, _⟩ :: _) _ _); first | (refine wla w.heap.size (Dc.cl d (.slice a n cap) (.slice sa m scap)) ?_) | (refine wlb w.heap.size (Dc.cl d (.slice a n cap) (.slice sa m scap)) ?_)))
 refine (l1In_any _ _ _ _).mono ?_
 rintro r wx4 ⟨rfl, rfl⟩
 rw [h4]
 go_wp2_with (first | ((with_reducible show wpList _ _ _ (⟨_, Op.load 40 _, _, _, _, _⟩ :: _) _ _); first | (refine wla w.heap.size (Dc.cl d (.slice a n cap) (.slice sa m scap)) ?_) | (refine wlb w.heap.size (Dc.cl d (.slice a n cap) (.slice sa m scap)) ?_)))
 refine (specUtfOk_any d.utf _).mono ?_
 rintro r w5 ⟨rfl, hb5⟩
 have hz5 := hb5.size
 try simp only [World.size_alloc, World.size_setCell, World.size_drew] at hz5
 have hb5b : Below w1.heap.size w1 w5 := by exact bl
 have kA_ := box_next hb5b hBA kA; clear kA
 have kA := kA_; clear kA_
 have hBA_ := Nat.lt_of_lt_of_le hBA hb5b.size; clear hBA; have hBA := hBA_; clear hBA_
 clear hb5; have hb5 := hb5b; clear hb5b
 rw [h5]
 go_wp2_with (first | ((with_reducible show wpList _ _ _ (⟨_, Op.load 40 _, _, _, _, _⟩ :: _) _ _); first | (refine wla w.heap.size (Dc.cl d (.slice a n cap) (.slice sa m scap)) ?_) | (refine wlb w.heap.size (Dc.cl d (.slice a n cap) (.slice sa m scap)) ?_)))
 refine (specWireOk_any _ _).mono ?_
 rintro r wx6 ⟨rfl, rfl⟩
 rw [h6]
 go_wp2_with (first | ((with_reducible show wpList _ _ _ (⟨_, Op.load 40 _, _, _, _, _⟩ :: _) _ _); first | (refine wla w.heap.size (Dc.cl d (.slice a n cap) (.slice sa m scap)) ?_) | (refine wlb w.heap.size (Dc.cl d (.slice a n cap) (.slice sa m scap)) ?_)))
 refine (specFieldOk_any d a cap n xs sa scap m ls _ (HSs.out.keep bl) (Sl.keep HSl.out bl) HX.out HL.out hn hm hm').mono ?_
 rintro r w7 ⟨rfl, hb7⟩
 have hz7 := hb7.size
 try simp only [World.size_alloc, World.size_setCell, World.size_drew] at hz7
 have hb7b : Below w5.heap.size w5 w7 := by exact bl
 have kA_ := box_next hb7b hBA kA; clear kA
 have kA := kA_; clear kA_
 have hBA_ := Nat.lt_of_lt_of_le hBA hb7b.size; clear hBA; have hBA := hBA_; clear hBA_
 clear hb7; have hb7 := hb7b; clear hb7b
 rw [h7]
 go_wp2_with (first | ((with_reducible show wpList _ _ _ (⟨_, Op.load 40 _, _, _, _, _⟩ :: _) _ _); first | (refine wla w.heap.size (Dc.cl d (.slice a n cap) (.slice sa m scap)) ?_) | (refine wlb w.heap.size (Dc.cl d (.slice a n cap) (.slice sa m scap)) ?_)))
 refine (specStackOk_any d a cap n xs sa scap m ls _ (HSs.out.keep bl) (Sl.keep HSl.out bl) HX.out HL.out hn hm hm').mono ?_
 rintro r w8 ⟨rfl, hb8⟩
 have hz8 := hb8.size
 try simp only [World.size_alloc, World.size_setCell, World.size_drew] at hz8
 have hb8b : Below w7.heap.size w7 w8 := by exact bl
 have kA_ := box_next hb8b hBA kA; clear kA
 have kA := kA_; clear kA_
 have hBA_ := Nat.lt_of_lt_of_le hBA hb8b.size; clear hBA; have hBA := hBA_; clear hBA_
 clear hb8; have hb8 := hb8b; clear hb8b
 rw [h8]
 have hM := HM0.out
 have e1 : (d.mode == 1) = false := by simp [hM]
 have e2 : (d.mode == 2) = false := by simp [hM]
 have e3 : (d.mode == 3) = true := by simp [hM]
 have e4 : (d.mode == 4) = false := by simp [hM]
 have e5 : (d.mode == 5) = false := by simp [hM]
 have e6 : (d.mode == 6) = false := by simp [hM]
 have e7 : (d.mode == 7) = false := by simp [hM]
 have e8 : (d.mode == 8) = false := by simp [hM]
 have e9 : (d.mode == 9) = false := by simp [hM]
 have b1 : (d.mode != 1) = true := by simp [hM]
 have b2 : (d.mode != 2) = true := by simp [hM]
 have b3 : (d.mode != 3) = false := by simp [hM]
 have b4 : (d.mode != 4) = true := by simp [hM]
 have b5 : (d.mode != 5) = true := by simp [hM]
 have b6 : (d.mode != 6) = true := by simp [hM]
 have b7 : (d.mode != 7) = true := by simp [hM]
 have b8 : (d.mode != 8) = true := by simp [hM]
 have b9 : (d.mode != 9) = true := by simp [hM]
 have i35 : inB d.mode 3 5 = true := by rw [hM]; rfl
 have hE0 : endOk d = sameEv ⟨d.end_.kind, d.end_.field, d.end_.bits, d.end_.len, d.end_.text, d.end_.code, d.end_.at_⟩ ⟨0, 0, 0, 0, ⟨#[]⟩, 0, 0⟩ := by simp only [endOk, hM]; rfl
 have hW0 : wantOk d ls = (d.want == 0) := by simp only [wantOk, hM]; rfl
 have hK0 : kindOk d = ((d.wire == 0) && (sameF ⟨d.field.number, d.field.kind, d.field.rep, d.field.packed, d.field.msg⟩ ⟨0, 0, false, false, 0⟩ || allowed d.field d.wire)) := by simp only [kindOk, hM]; rfl
 rw [hE0, hW0, hK0] at HT
 clear hM hE0 hW0 hK0
 cases g1 : sameEv ⟨d.end_.kind, d.end_.field, d.end_.bits, d.end_.len, d.end_.text, d.end_.code, d.end_.at_⟩ ⟨0, 0, 0, 0, ⟨#[]⟩, 0, 0⟩
 ·skip
  have HB := Lib.hid (show false = R by rw [← HT.out]; simp only [g1, Bool.and_false, Bool.false_and, Bool.true_and, Bool.and_true, Bool.not_true, Bool.not_false, Bool.or_true, Bool.true_or, Bool.or_false, Bool.false_or])
  clear HT
  go_wp2_with (first | (go_at_call 51; refine (l1In_any _ _ _ _).mono ?_; rintro r wx ⟨rfl, rfl⟩; (try rw [i35])) | (go_at_call 63; refine (specWidthOf_any _ _).mono ?_; rintro r wx ⟨rfl, rfl⟩) | ((with_reducible show wpList _ _ _ (⟨_, Op.load 40 _, _, _, _, _⟩ :: _) _ _); first | (refine wla w.heap.size (Dc.cl d (.slice a n cap) (.slice sa m scap)) ?_) | (refine wlb w.heap.size (Dc.cl d (.slice a n cap) (.slice sa m scap)) ?_)))
  go_ret
  exact ⟨ret_bool HB.out, by exact bl⟩
 ·skip
  cases g3 : (d.want == 0)
  ·skip
   have HB := Lib.hid (show false = R by rw [← HT.out]; simp only [g1, g3, Bool.and_false, Bool.false_and, Bool.true_and, Bool.and_true, Bool.not_true, Bool.not_false, Bool.or_true, Bool.true_or, Bool.or_false, Bool.false_or])
   clear HT
   go_wp2_with (first | (go_at_call 51; refine (l1In_any _ _ _ _).mono ?_; rintro r wx ⟨rfl, rfl⟩; (try rw [i35])) | (go_at_call 63; refine (specWidthOf_any _ _).mono ?_; rintro r wx ⟨rfl, rfl⟩) | ((with_reducible show wpList _ _ _ (⟨_, Op.load 40 _, _, _, _, _⟩ :: _) _ _); first | (refine wla w.heap.size (Dc.cl d (.slice a n cap) (.slice sa m scap)) ?_) | (refine wlb w.heap.size (Dc.cl d (.slice a n cap) (.slice sa m scap)) ?_)))
   go_ret
   exact ⟨ret_bool HB.out, by exact bl⟩
  ·skip
   have hk4 : (d.wire == 0) = true ∨ (d.wire == 0) = false := by cases (d.wire == 0) <;> simp
   rcases hk4 with g4 | g4
   ·have g4b : (d.wire != 0) = false := by simp only [bne, g4, Bool.not_true, Bool.not_false]
    cases gF : sameF ⟨d.field.number, d.field.kind, d.field.rep, d.field.packed, d.field.msg⟩ ⟨0, 0, false, false, 0⟩
    ·skip
     go_wp2_with (first | (go_at_call 51; refine (l1In_any _ _ _ _).mono ?_; rintro r wx ⟨rfl, rfl⟩; (try rw [i35])) | (go_at_call 63; refine (specWidthOf_any _ _).mono ?_; rintro r wx ⟨rfl, rfl⟩) | ((with_reducible show wpList _ _ _ (⟨_, Op.load 40 _, _, _, _, _⟩ :: _) _ _); first | (refine wla w.heap.size (Dc.cl d (.slice a n cap) (.slice sa m scap)) ?_) | (refine wlb w.heap.size (Dc.cl d (.slice a n cap) (.slice sa m scap)) ?_)))
     refine (specAllowed_any d.field d.wire _ h6).mono ?_
     rintro r w20 ⟨rfl, hb20⟩
     have hz20 := hb20.size
     try simp only [World.size_alloc, World.size_setCell, World.size_drew] at hz20
     have hb20b : Below w8.heap.size w8 w20 := by exact bl
     have kA_ := box_next hb20b hBA kA; clear kA
     have kA := kA_; clear kA_
     have hBA_ := Nat.lt_of_lt_of_le hBA hb20b.size; clear hBA; have hBA := hBA_; clear hBA_
     clear hb20; have hb20 := hb20b; clear hb20b
     cases gA : allowed d.field d.wire
     ·skip
      have HB := Lib.hid (show false = R by rw [← HT.out]; simp only [g1, g3, g4, gF, gA, Bool.and_false, Bool.false_and, Bool.true_and, Bool.and_true, Bool.not_true, Bool.not_false, Bool.or_true, Bool.true_or, Bool.or_false, Bool.false_or])
      clear HT
      go_wp2_with (first | (go_at_call 51; refine (l1In_any _ _ _ _).mono ?_; rintro r wx ⟨rfl, rfl⟩; (try rw [i35])) | (go_at_call 63; refine (specWidthOf_any _ _).mono ?_; rintro r wx ⟨rfl, rfl⟩) | ((with_reducible show wpList _ _ _ (⟨_, Op.load 40 _, _, _, _, _⟩ :: _) _ _); first | (refine wla w.heap.size (Dc.cl d (.slice a n cap) (.slice sa m scap)) ?_) | (refine wlb w.heap.size (Dc.cl d (.slice a n cap) (.slice sa m scap)) ?_)))
      go_ret
      exact ⟨ret_bool HB.out, by exact bl⟩
     ·skip
      cases t6 : (d.field.kind == 6)
      all_goals
       go_wp2_with (first | (go_at_call 51; refine (l1In_any _ _ _ _).mono ?_; rintro r wx ⟨rfl, rfl⟩; (try rw [i35])) | (go_at_call 63; refine (specWidthOf_any _ _).mono ?_; rintro r wx ⟨rfl, rfl⟩) | ((with_reducible show wpList _ _ _ (⟨_, Op.load 40 _, _, _, _, _⟩ :: _) _ _); first | (refine wla w.heap.size (Dc.cl d (.slice a n cap) (.slice sa m scap)) ?_) | (refine wlb w.heap.size (Dc.cl d (.slice a n cap) (.slice sa m scap)) ?_)))
       all_goals
        refine (specScanD_any d a cap n xs sa scap m ls _ (HSs.out.keep bl) (Sl.keep HSl.out bl) HX.out HL.out hn hm hm').mono ?_
        rintro r w40 ⟨rfl, hb40⟩
        have HB := Lib.hid (show scanD d ls = R by rw [← HT.out]; simp only [g1, g3, g4, gF, gA, Bool.and_false, Bool.false_and, Bool.true_and, Bool.and_true, Bool.not_true, Bool.not_false, Bool.or_true, Bool.true_or, Bool.or_false, Bool.false_or])
        clear HT
        rw [HB.out]
        go_wp2
        go_ret
        exact ⟨rfl, by exact bl⟩
    ·skip
     cases t6 : (d.field.kind == 6)
     all_goals
      go_wp2_with (first | (go_at_call 51; refine (l1In_any _ _ _ _).mono ?_; rintro r wx ⟨rfl, rfl⟩; (try rw [i35])) | (go_at_call 63; refine (specWidthOf_any _ _).mono ?_; rintro r wx ⟨rfl, rfl⟩) | ((with_reducible show wpList _ _ _ (⟨_, Op.load 40 _, _, _, _, _⟩ :: _) _ _); first | (refine wla w.heap.size (Dc.cl d (.slice a n cap) (.slice sa m scap)) ?_) | (refine wlb w.heap.size (Dc.cl d (.slice a n cap) (.slice sa m scap)) ?_)))
      all_goals
       refine (specScanD_any d a cap n xs sa scap m ls _ (HSs.out.keep bl) (Sl.keep HSl.out bl) HX.out HL.out hn hm hm').mono ?_
       rintro r w40 ⟨rfl, hb40⟩
       have HB := Lib.hid (show scanD d ls = R by rw [← HT.out]; simp only [g1, g3, g4, gF, Bool.and_false, Bool.false_and, Bool.true_and, Bool.and_true, Bool.not_true, Bool.not_false, Bool.or_true, Bool.true_or, Bool.or_false, Bool.false_or])
       clear HT
       rw [HB.out]
       go_wp2
       go_ret
       exact ⟨rfl, by exact bl⟩
   ·have g4b : (d.wire != 0) = true := by simp only [bne, g4, Bool.not_true, Bool.not_false]
    have HB := Lib.hid (show false = R by rw [← HT.out]; simp only [g1, g3, g4, Bool.and_false, Bool.false_and, Bool.true_and, Bool.and_true, Bool.not_true, Bool.not_false, Bool.or_true, Bool.true_or, Bool.or_false, Bool.false_or])
    clear HT
    go_wp2_with (first | (go_at_call 51; refine (l1In_any _ _ _ _).mono ?_; rintro r wx ⟨rfl, rfl⟩; (try rw [i35])) | (go_at_call 63; refine (specWidthOf_any _ _).mono ?_; rintro r wx ⟨rfl, rfl⟩) | ((with_reducible show wpList _ _ _ (⟨_, Op.load 40 _, _, _, _, _⟩ :: _) _ _); first | (refine wla w.heap.size (Dc.cl d (.slice a n cap) (.slice sa m scap)) ?_) | (refine wlb w.heap.size (Dc.cl d (.slice a n cap) (.slice sa m scap)) ?_)))
    go_ret
    exact ⟨ret_bool HB.out, by exact bl⟩
set_option maxRecDepth 100000 in
set_option maxHeartbeats 8000000 in
theorem specDecOk_m4 (d : Dc) (a : Option Addr) (cap n : Nat) (xs : List Shp) (sa : Option Addr) (scap m : Nat) (ls : List Lvl) (w : World) (h : Shs w a xs) (h' : Lvls w sa ls) (hx : xs.length = n) (hl : ls.length = m) (hn : n ≤ 1048576) (hm : fldSum xs ≤ 1048576) (hm' : m ≤ 1048576) (h1 : planOk d.p xs = true) (h2 : inB d.mode 1 9 = true) (h3 : inB d.at_ 0 1000000000 = true) (h4 : inB d.start 0 d.at_ = true) (h5 : utfOk d.utf = true) (h6 : wireOk d.wire = true) (h7 : fieldIn d.field xs = true) (h8 : stackOk d n ls = true) (hM : d.mode = 4) (R : Bool) (hT : (endOk d && (wantOk d ls && (kindOk d && scanD d ls))) = R) :
  Calls Tryz.prog 30 #[d.val (.slice a n cap) (.slice sa m scap)] w fun r w' => r = .returned (.bool R) ∧ Below w.heap.size w w' := by
 have HL := Lib.hid hl; clear hl
 have HX := Lib.hid hx; clear hx
 have HSs := Lib.hid h; clear h
 have HSl := Lib.hid h'; clear h'
 have HT := Lib.hid hT; clear hT
 have HM0 := Lib.hid hM; clear hM
 have hxn : xs.length = n := HX.out
 have hne1 := run_neq_ev
 have hne2 := run_neq_fld
 go_enter Tryz.func30, Tryz.ntmps30
 go_wp2_with fail
 refine (specPlanOk_any a cap n d.p xs _ (HSs.out.keep bl) HX.out hn hm).mono ?_
 rintro r w1 ⟨rfl, hb1⟩
 have hz1 := hb1.size
 try simp only [World.size_alloc, World.size_setCell, World.size_drew] at hz1
 have hb1b : Below w.heap.size w w1 := by exact bl
 have kA := box_new0 hb1
 have hBA := box_lt0 hb1
 try simp only [World.size_alloc, World.size_setCell, World.size_drew] at kA
 try simp only [World.size_alloc, World.size_setCell, World.size_drew] at hBA
 clear hb1; have hb1 := hb1b; clear hb1b
 rw [h1]
 go_wp2_with (first | ((with_reducible show wpList _ _ _ (⟨_, Op.load 40 _, _, _, _, _⟩ :: _) _ _); first | (refine wla w.heap.size (Dc.cl d (.slice a n cap) (.slice sa m scap)) ?_) | (refine wlb w.heap.size (Dc.cl d (.slice a n cap) (.slice sa m scap)) ?_)))
 refine (l1In_any _ _ _ _).mono ?_
 rintro r wx2 ⟨rfl, rfl⟩
 rw [h2]
 go_wp2_with (first | ((with_reducible show wpList _ _ _ (⟨_, Op.load 40 _, _, _, _, _⟩ :: _) _ _); first | (refine wla w.heap.size (Dc.cl d (.slice a n cap) (.slice sa m scap)) ?_) | (refine wlb w.heap.size (Dc.cl d (.slice a n cap) (.slice sa m scap)) ?_)))
 refine (l1In_any _ _ _ _).mono ?_
 rintro r wx3 ⟨rfl, rfl⟩
 rw [h3]
 go_wp2_with (first | ((with_reducible show wpList _ _ _ (⟨_, Op.load 40 _, _, _, _, _⟩ :: _) _ _); first | (refine wla w.heap.size (Dc.cl d (.slice a n cap) (.slice sa m scap)) ?_) | (refine wlb w.heap.size (Dc.cl d (.slice a n cap) (.slice sa m scap)) ?_)))
 refine (l1In_any _ _ _ _).mono ?_
 rintro r wx4 ⟨rfl, rfl⟩
 rw [h4]
 go_wp2_with (first | ((with_reducible show wpList _ _ _ (⟨_, Op.load 40 _, _, _, _, _⟩ :: _) _ _); first | (refine wla w.heap.size (Dc.cl d (.slice a n cap) (.slice sa m scap)) ?_) | (refine wlb w.heap.size (Dc.cl d (.slice a n cap) (.slice sa m scap)) ?_)))
 refine (specUtfOk_any d.utf _).mono ?_
 rintro r w5 ⟨rfl, hb5⟩
 have hz5 := hb5.size
 try simp only [World.size_alloc, World.size_setCell, World.size_drew] at hz5
 have hb5b : Below w1.heap.size w1 w5 := by exact bl
 have kA_ := box_next hb5b hBA kA; clear kA
 have kA := kA_; clear kA_
 have hBA_ := Nat.lt_of_lt_of_le hBA hb5b.size; clear hBA; have hBA := hBA_; clear hBA_
 clear hb5; have hb5 := hb5b; clear hb5b
 rw [h5]
 go_wp2_with (first | ((with_reducible show wpList _ _ _ (⟨_, Op.load 40 _, _, _, _, _⟩ :: _) _ _); first | (refine wla w.heap.size (Dc.cl d (.slice a n cap) (.slice sa m scap)) ?_) | (refine wlb w.heap.size (Dc.cl d (.slice a n cap) (.slice sa m scap)) ?_)))
 refine (specWireOk_any _ _).mono ?_
 rintro r wx6 ⟨rfl, rfl⟩
 rw [h6]
 go_wp2_with (first | ((with_reducible show wpList _ _ _ (⟨_, Op.load 40 _, _, _, _, _⟩ :: _) _ _); first | (refine wla w.heap.size (Dc.cl d (.slice a n cap) (.slice sa m scap)) ?_) | (refine wlb w.heap.size (Dc.cl d (.slice a n cap) (.slice sa m scap)) ?_)))
 refine (specFieldOk_any d a cap n xs sa scap m ls _ (HSs.out.keep bl) (Sl.keep HSl.out bl) HX.out HL.out hn hm hm').mono ?_
 rintro r w7 ⟨rfl, hb7⟩
 have hz7 := hb7.size
 try simp only [World.size_alloc, World.size_setCell, World.size_drew] at hz7
 have hb7b : Below w5.heap.size w5 w7 := by exact bl
 have kA_ := box_next hb7b hBA kA; clear kA
 have kA := kA_; clear kA_
 have hBA_ := Nat.lt_of_lt_of_le hBA hb7b.size; clear hBA; have hBA := hBA_; clear hBA_
 clear hb7; have hb7 := hb7b; clear hb7b
 rw [h7]
 go_wp2_with (first | ((with_reducible show wpList _ _ _ (⟨_, Op.load 40 _, _, _, _, _⟩ :: _) _ _); first | (refine wla w.heap.size (Dc.cl d (.slice a n cap) (.slice sa m scap)) ?_) | (refine wlb w.heap.size (Dc.cl d (.slice a n cap) (.slice sa m scap)) ?_)))
 refine (specStackOk_any d a cap n xs sa scap m ls _ (HSs.out.keep bl) (Sl.keep HSl.out bl) HX.out HL.out hn hm hm').mono ?_
 rintro r w8 ⟨rfl, hb8⟩
 have hz8 := hb8.size
 try simp only [World.size_alloc, World.size_setCell, World.size_drew] at hz8
 have hb8b : Below w7.heap.size w7 w8 := by exact bl
 have kA_ := box_next hb8b hBA kA; clear kA
 have kA := kA_; clear kA_
 have hBA_ := Nat.lt_of_lt_of_le hBA hb8b.size; clear hBA; have hBA := hBA_; clear hBA_
 clear hb8; have hb8 := hb8b; clear hb8b
 rw [h8]
 have hM := HM0.out
 have e1 : (d.mode == 1) = false := by simp [hM]
 have e2 : (d.mode == 2) = false := by simp [hM]
 have e3 : (d.mode == 3) = false := by simp [hM]
 have e4 : (d.mode == 4) = true := by simp [hM]
 have e5 : (d.mode == 5) = false := by simp [hM]
 have e6 : (d.mode == 6) = false := by simp [hM]
 have e7 : (d.mode == 7) = false := by simp [hM]
 have e8 : (d.mode == 8) = false := by simp [hM]
 have e9 : (d.mode == 9) = false := by simp [hM]
 have b1 : (d.mode != 1) = true := by simp [hM]
 have b2 : (d.mode != 2) = true := by simp [hM]
 have b3 : (d.mode != 3) = true := by simp [hM]
 have b4 : (d.mode != 4) = false := by simp [hM]
 have b5 : (d.mode != 5) = true := by simp [hM]
 have b6 : (d.mode != 6) = true := by simp [hM]
 have b7 : (d.mode != 7) = true := by simp [hM]
 have b8 : (d.mode != 8) = true := by simp [hM]
 have b9 : (d.mode != 9) = true := by simp [hM]
 have i35 : inB d.mode 3 5 = true := by rw [hM]; rfl
 have hE0 : endOk d = sameEv ⟨d.end_.kind, d.end_.field, d.end_.bits, d.end_.len, d.end_.text, d.end_.code, d.end_.at_⟩ ⟨0, 0, 0, 0, ⟨#[]⟩, 0, 0⟩ := by simp only [endOk, hM]; rfl
 have hW0 : wantOk d ls = (d.want == 0) := by simp only [wantOk, hM]; rfl
 have hK0 : kindOk d = ((d.wire == 2) && (sameF ⟨d.field.number, d.field.kind, d.field.rep, d.field.packed, d.field.msg⟩ ⟨0, 0, false, false, 0⟩ || allowed d.field d.wire)) := by simp only [kindOk, hM]; rfl
 rw [hE0, hW0, hK0] at HT
 clear hM hE0 hW0 hK0
 cases g1 : sameEv ⟨d.end_.kind, d.end_.field, d.end_.bits, d.end_.len, d.end_.text, d.end_.code, d.end_.at_⟩ ⟨0, 0, 0, 0, ⟨#[]⟩, 0, 0⟩
 ·skip
  have HB := Lib.hid (show false = R by rw [← HT.out]; simp only [g1, Bool.and_false, Bool.false_and, Bool.true_and, Bool.and_true, Bool.not_true, Bool.not_false, Bool.or_true, Bool.true_or, Bool.or_false, Bool.false_or])
  clear HT
  go_wp2_with (first | (go_at_call 51; refine (l1In_any _ _ _ _).mono ?_; rintro r wx ⟨rfl, rfl⟩; (try rw [i35])) | (go_at_call 63; refine (specWidthOf_any _ _).mono ?_; rintro r wx ⟨rfl, rfl⟩) | ((with_reducible show wpList _ _ _ (⟨_, Op.load 40 _, _, _, _, _⟩ :: _) _ _); first | (refine wla w.heap.size (Dc.cl d (.slice a n cap) (.slice sa m scap)) ?_) | (refine wlb w.heap.size (Dc.cl d (.slice a n cap) (.slice sa m scap)) ?_)))
  go_ret
  exact ⟨ret_bool HB.out, by exact bl⟩
 ·skip
  cases g3 : (d.want == 0)
  ·skip
   have HB := Lib.hid (show false = R by rw [← HT.out]; simp only [g1, g3, Bool.and_false, Bool.false_and, Bool.true_and, Bool.and_true, Bool.not_true, Bool.not_false, Bool.or_true, Bool.true_or, Bool.or_false, Bool.false_or])
   clear HT
   go_wp2_with (first | (go_at_call 51; refine (l1In_any _ _ _ _).mono ?_; rintro r wx ⟨rfl, rfl⟩; (try rw [i35])) | (go_at_call 63; refine (specWidthOf_any _ _).mono ?_; rintro r wx ⟨rfl, rfl⟩) | ((with_reducible show wpList _ _ _ (⟨_, Op.load 40 _, _, _, _, _⟩ :: _) _ _); first | (refine wla w.heap.size (Dc.cl d (.slice a n cap) (.slice sa m scap)) ?_) | (refine wlb w.heap.size (Dc.cl d (.slice a n cap) (.slice sa m scap)) ?_)))
   go_ret
   exact ⟨ret_bool HB.out, by exact bl⟩
  ·skip
   have hk4 : (d.wire == 2) = true ∨ (d.wire == 2) = false := by cases (d.wire == 2) <;> simp
   rcases hk4 with g4 | g4
   ·have g4b : (d.wire != 2) = false := by simp only [bne, g4, Bool.not_true, Bool.not_false]
    cases gF : sameF ⟨d.field.number, d.field.kind, d.field.rep, d.field.packed, d.field.msg⟩ ⟨0, 0, false, false, 0⟩
    ·skip
     go_wp2_with (first | (go_at_call 51; refine (l1In_any _ _ _ _).mono ?_; rintro r wx ⟨rfl, rfl⟩; (try rw [i35])) | (go_at_call 63; refine (specWidthOf_any _ _).mono ?_; rintro r wx ⟨rfl, rfl⟩) | ((with_reducible show wpList _ _ _ (⟨_, Op.load 40 _, _, _, _, _⟩ :: _) _ _); first | (refine wla w.heap.size (Dc.cl d (.slice a n cap) (.slice sa m scap)) ?_) | (refine wlb w.heap.size (Dc.cl d (.slice a n cap) (.slice sa m scap)) ?_)))
     refine (specAllowed_any d.field d.wire _ h6).mono ?_
     rintro r w20 ⟨rfl, hb20⟩
     have hz20 := hb20.size
     try simp only [World.size_alloc, World.size_setCell, World.size_drew] at hz20
     have hb20b : Below w8.heap.size w8 w20 := by exact bl
     have kA_ := box_next hb20b hBA kA; clear kA
     have kA := kA_; clear kA_
     have hBA_ := Nat.lt_of_lt_of_le hBA hb20b.size; clear hBA; have hBA := hBA_; clear hBA_
     clear hb20; have hb20 := hb20b; clear hb20b
     cases gA : allowed d.field d.wire
     ·skip
      have HB := Lib.hid (show false = R by rw [← HT.out]; simp only [g1, g3, g4, gF, gA, Bool.and_false, Bool.false_and, Bool.true_and, Bool.and_true, Bool.not_true, Bool.not_false, Bool.or_true, Bool.true_or, Bool.or_false, Bool.false_or])
      clear HT
      go_wp2_with (first | (go_at_call 51; refine (l1In_any _ _ _ _).mono ?_; rintro r wx ⟨rfl, rfl⟩; (try rw [i35])) | (go_at_call 63; refine (specWidthOf_any _ _).mono ?_; rintro r wx ⟨rfl, rfl⟩) | ((with_reducible show wpList _ _ _ (⟨_, Op.load 40 _, _, _, _, _⟩ :: _) _ _); first | (refine wla w.heap.size (Dc.cl d (.slice a n cap) (.slice sa m scap)) ?_) | (refine wlb w.heap.size (Dc.cl d (.slice a n cap) (.slice sa m scap)) ?_)))
      go_ret
      exact ⟨ret_bool HB.out, by exact bl⟩
     ·skip
      cases t6 : (d.field.kind == 6)
      all_goals
       go_wp2_with (first | (go_at_call 51; refine (l1In_any _ _ _ _).mono ?_; rintro r wx ⟨rfl, rfl⟩; (try rw [i35])) | (go_at_call 63; refine (specWidthOf_any _ _).mono ?_; rintro r wx ⟨rfl, rfl⟩) | ((with_reducible show wpList _ _ _ (⟨_, Op.load 40 _, _, _, _, _⟩ :: _) _ _); first | (refine wla w.heap.size (Dc.cl d (.slice a n cap) (.slice sa m scap)) ?_) | (refine wlb w.heap.size (Dc.cl d (.slice a n cap) (.slice sa m scap)) ?_)))
       all_goals
        refine (specScanD_any d a cap n xs sa scap m ls _ (HSs.out.keep bl) (Sl.keep HSl.out bl) HX.out HL.out hn hm hm').mono ?_
        rintro r w40 ⟨rfl, hb40⟩
        have HB := Lib.hid (show scanD d ls = R by rw [← HT.out]; simp only [g1, g3, g4, gF, gA, Bool.and_false, Bool.false_and, Bool.true_and, Bool.and_true, Bool.not_true, Bool.not_false, Bool.or_true, Bool.true_or, Bool.or_false, Bool.false_or])
        clear HT
        rw [HB.out]
        go_wp2
        go_ret
        exact ⟨rfl, by exact bl⟩
    ·skip
     cases t6 : (d.field.kind == 6)
     all_goals
      go_wp2_with (first | (go_at_call 51; refine (l1In_any _ _ _ _).mono ?_; rintro r wx ⟨rfl, rfl⟩; (try rw [i35])) | (go_at_call 63; refine (specWidthOf_any _ _).mono ?_; rintro r wx ⟨rfl, rfl⟩) | ((with_reducible show wpList _ _ _ (⟨_, Op.load 40 _, _, _, _, _⟩ :: _) _ _); first | (refine wla w.heap.size (Dc.cl d (.slice a n cap) (.slice sa m scap)) ?_) | (refine wlb w.heap.size (Dc.cl d (.slice a n cap) (.slice sa m scap)) ?_)))
      all_goals
       refine (specScanD_any d a cap n xs sa scap m ls _ (HSs.out.keep bl) (Sl.keep HSl.out bl) HX.out HL.out hn hm hm').mono ?_
       rintro r w40 ⟨rfl, hb40⟩
       have HB := Lib.hid (show scanD d ls = R by rw [← HT.out]; simp only [g1, g3, g4, gF, Bool.and_false, Bool.false_and, Bool.true_and, Bool.and_true, Bool.not_true, Bool.not_false, Bool.or_true, Bool.true_or, Bool.or_false, Bool.false_or])
       clear HT
       rw [HB.out]
       go_wp2
       go_ret
       exact ⟨rfl, by exact bl⟩
   ·have g4b : (d.wire != 2) = true := by simp only [bne, g4, Bool.not_true, Bool.not_false]
    have HB := Lib.hid (show false = R by rw [← HT.out]; simp only [g1, g3, g4, Bool.and_false, Bool.false_and, Bool.true_and, Bool.and_true, Bool.not_true, Bool.not_false, Bool.or_true, Bool.true_or, Bool.or_false, Bool.false_or])
    clear HT
    go_wp2_with (first | (go_at_call 51; refine (l1In_any _ _ _ _).mono ?_; rintro r wx ⟨rfl, rfl⟩; (try rw [i35])) | (go_at_call 63; refine (specWidthOf_any _ _).mono ?_; rintro r wx ⟨rfl, rfl⟩) | ((with_reducible show wpList _ _ _ (⟨_, Op.load 40 _, _, _, _, _⟩ :: _) _ _); first | (refine wla w.heap.size (Dc.cl d (.slice a n cap) (.slice sa m scap)) ?_) | (refine wlb w.heap.size (Dc.cl d (.slice a n cap) (.slice sa m scap)) ?_)))
    go_ret
    exact ⟨ret_bool HB.out, by exact bl⟩
end Go.Proofs.YtabdjimjelfbfaaGreat

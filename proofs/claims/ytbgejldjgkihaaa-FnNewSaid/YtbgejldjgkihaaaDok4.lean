/- Numbers of a decoder tested. -/
import Derived.Test.YtbgejldjgkihaaaDok3
namespace Go.Proofs.Ytbgejldjgkihaaa
set_option linter.unusedSimpArgs false
set_option linter.unusedVariables false
open Go.ChangeShapes Go.WideShapes Go.ChangeAt Go.RowKit Go.BigFrame

def sameS (b h b' h' : Int) : Bool := decide (b = b' ∧ h = h')
theorem run_eql_scan (a b a' b' : Int) (w : World) :
    (binOp .eql 60 (.agg #[.int .u64 a, .int .i64 b]) (.agg #[.int .u64 a', .int .i64 b'])).run Try.prog w = .ok (.bool (sameS a b a' b')) w := by
  simp [go_sem, sameS]
  by_cases h1 : a = a' <;> by_cases h2 : b = b' <;> simp [h1, h2]
/-- A number of w bytes of which some are there, in what room is left. -/
def scanFits (w h b room : Int) : Bool := inB h 0 (w - 1) && (decide (b / 2 ^ (8 * h).toNat = 0) && decide (w - h ≤ room))
def scanD (d : Dc) (ls : List Lvl) : Bool :=
  if d.mode = 6 ∨ d.mode = 7 ∨ d.mode = 9 then sameS d.bits d.have_ 0 0
  else if d.mode = 5 then scanFits (widthD d) d.have_ d.bits (topL ls)
  else if d.mode = 8 then (if widthD d = 0 then scanOk d.bits d.have_ else scanFits (widthD d) d.have_ d.bits d.want)
  else scanOk d.bits d.have_
theorem widthD_cases (d : Dc) : widthD d = 0 ∨ widthD d = 4 ∨ widthD d = 8 := by
  unfold widthD; split
  · exact widthOf_cases _
  · split
    · exact widthOf_cases _
    · exact .inl rfl
set_option maxRecDepth 100000 in
set_option maxHeartbeats 4000000 in
theorem specScanD_any (d : Dc) (a : Option Addr) (cap n : Nat) (xs : List Shp) (sa : Option Addr) (scap m : Nat) (ls : List Lvl) (w : World) (h : Shs w a xs) (h' : Lvls w sa ls) (hx : xs.length = n) (hl : ls.length = m) (hn : n ≤ 1048576) (hm : fldSum xs ≤ 1048576) (hm' : m ≤ 1048576) :
    Calls Try.prog 86 #[d.val (.slice a n cap) (.slice sa m scap)] w fun r w' => r = .returned (.bool (scanD d ls)) ∧ Below w.heap.size w w' := by
  have HL := Lib.hid hl; clear hl
  have HX := Lib.hid hx; clear hx
  have HSs := Lib.hid h; clear h
  have HSl := Lib.hid h'; clear h'
  obtain ⟨R, hR⟩ : ∃ R, scanD d ls = R := ⟨_, rfl⟩
  rw [hR]
  have HR := Lib.hid hR; clear hR
  have hne := run_eql_scan
  go_enter Try.func86, Try.ntmps86
  go_wp2_with (first | ((with_reducible show wpList _ _ _ (⟨_, Op.load 66 _, _, _, _, _⟩ :: _) _ _); first | (refine wpList_load_mid rfl 66 _ rfl w.heap.size 0 rfl (Dc.cl d (.slice a n cap) (.slice sa m scap)) _ (range_of_box (t := 66) (hset_new rfl)) Try.underlying66 rfl size_Dec ?_) | (refine wpList_load_want 66 _ rfl rfl w.heap.size 0 rfl (Dc.cl d (.slice a n cap) (.slice sa m scap)) _ (range_of_box (t := 66) (hset_new rfl)) Try.underlying66 rfl size_Dec ?_)))
  refine (specWidthD_any d a cap n xs sa scap m ls _ (HSs.out.keep (by ((repeat (first | (with_reducible exact Below.refl _ _) | (with_reducible assumption) | (with_reducible refine Below.alloc ?_ ?_ _) | (with_reducible refine Below.setCell ?_ ?_ _) | (with_reducible refine Below.drew ?_) | (with_reducible refine below_setRow ?_ ?_ _) | (refine Below.trans ?_ (Below.mono (by assumption) ?_)))); all_goals (first | omega | (simp; done) | (simp; omega))))) (Sl.keep HSl.out (by ((repeat (first | (with_reducible exact Below.refl _ _) | (with_reducible assumption) | (with_reducible refine Below.alloc ?_ ?_ _) | (with_reducible refine Below.setCell ?_ ?_ _) | (with_reducible refine Below.drew ?_) | (with_reducible refine below_setRow ?_ ?_ _) | (refine Below.trans ?_ (Below.mono (by assumption) ?_)))); all_goals (first | omega | (simp; done) | (simp; omega))))) HX.out HL.out hn hm hm').mono ?_
  rintro r w1 ⟨rfl, hb1⟩
  have hz1 := hb1.size
  try simp only [World.size_alloc, World.size_setCell, World.size_drew] at hz1
  have hb1b : Below w.heap.size w w1 := by ((repeat (first | (with_reducible exact Below.refl _ _) | (with_reducible assumption) | (with_reducible refine Below.alloc ?_ ?_ _) | (with_reducible refine Below.setCell ?_ ?_ _) | (with_reducible refine Below.drew ?_) | (with_reducible refine below_setRow ?_ ?_ _) | (refine Below.trans ?_ (Below.mono (by assumption) ?_)))); all_goals (first | omega | (simp; done) | (simp; omega)))
  have kA := box_new0 hb1
  have hBA := box_lt0 hb1
  try simp only [World.size_alloc, World.size_setCell, World.size_drew] at kA
  try simp only [World.size_alloc, World.size_setCell, World.size_drew] at hBA
  clear hb1; have hb1 := hb1b; clear hb1b
  obtain ⟨v, hv⟩ : ∃ v, v = widthD d := ⟨_, rfl⟩
  rw [← hv]
  have HVC := Lib.hid (show v = 0 ∨ v = 4 ∨ v = 8 by rw [hv]; exact widthD_cases d)
  have HV := Lib.hid hv; clear hv
  by_cases h679 : d.mode = 6 ∨ d.mode = 7 ∨ d.mode = 9
  · have HB := Lib.hid (show sameS d.bits d.have_ 0 0 = R by rw [← HR.out, scanD, if_pos h679])
    rcases h679 with h6 | h6 | h6
    all_goals
      go_wp2
      go_ret
      exact ⟨ret_bool HB.out, by ((repeat (first | (with_reducible exact Below.refl _ _) | (with_reducible assumption) | (with_reducible refine Below.alloc ?_ ?_ _) | (with_reducible refine Below.setCell ?_ ?_ _) | (with_reducible refine Below.drew ?_) | (with_reducible refine below_setRow ?_ ?_ _) | (refine Below.trans ?_ (Below.mono (by assumption) ?_)))); all_goals (first | omega | (simp; done) | (simp; omega)))⟩
  · have g6 : ¬ d.mode = 6 := fun h => h679 (.inl h)
    have g7 : ¬ d.mode = 7 := fun h => h679 (.inr (.inl h))
    have g9 : ¬ d.mode = 9 := fun h => h679 (.inr (.inr h))
    by_cases h5 : d.mode = 5
    · have HB := Lib.hid (show scanFits v d.have_ d.bits (topL ls) = R by rw [← HR.out, scanD, if_neg h679, if_pos h5, HV.out])
      have e5 : (d.mode == 5) = true := by simp [h5]
      have e6 : (d.mode == 6) = false := by simp [h5]
      have e7 : (d.mode == 7) = false := by simp [h5]
      have e8 : (d.mode == 8) = false := by simp [h5]
      have e9 : (d.mode == 9) = false := by simp [h5]
      clear HR h679 g6 g7 g9 h5
      go_wp2_with (first | ((with_reducible show wpList _ _ _ (⟨_, Op.load 66 _, _, _, _, _⟩ :: _) _ _); first | (refine wpList_load_mid rfl 66 _ rfl w.heap.size 0 rfl (Dc.cl d (.slice a n cap) (.slice sa m scap)) _ (range_of_cells (by assumption)) Try.underlying66 rfl size_Dec ?_) | (refine wpList_load_want 66 _ rfl rfl w.heap.size 0 rfl (Dc.cl d (.slice a n cap) (.slice sa m scap)) _ (range_of_cells (by assumption)) Try.underlying66 rfl size_Dec ?_)))
      refine (specTop_any d a cap n xs sa scap m ls _ (HSs.out.keep (by ((repeat (first | (with_reducible exact Below.refl _ _) | (with_reducible assumption) | (with_reducible refine Below.alloc ?_ ?_ _) | (with_reducible refine Below.setCell ?_ ?_ _) | (with_reducible refine Below.drew ?_) | (with_reducible refine below_setRow ?_ ?_ _) | (refine Below.trans ?_ (Below.mono (by assumption) ?_)))); all_goals (first | omega | (simp; done) | (simp; omega))))) (Sl.keep HSl.out (by ((repeat (first | (with_reducible exact Below.refl _ _) | (with_reducible assumption) | (with_reducible refine Below.alloc ?_ ?_ _) | (with_reducible refine Below.setCell ?_ ?_ _) | (with_reducible refine Below.drew ?_) | (with_reducible refine below_setRow ?_ ?_ _) | (refine Below.trans ?_ (Below.mono (by assumption) ?_)))); all_goals (first | omega | (simp; done) | (simp; omega))))) HX.out HL.out hn hm hm').mono ?_
      rintro r w2 ⟨rfl, hb2⟩
      have kA2 := box_next (hb2.mono (Nat.le_refl _)) hBA kA
      have hBA2 := Nat.lt_of_lt_of_le hBA hb2.size
      clear kA
      obtain ⟨room, hroom⟩ : ∃ t, t = topL ls := ⟨_, rfl⟩
      rw [← hroom] at HB ⊢
      clear hroom
      have hv8 : v ≤ 8 := by have := HVC.out; omega
      have hv1 : 0 ≤ v := by have := HVC.out; omega
      cases hin : inB d.have_ 0 (v - 1)
      · have HF := Lib.hid (show false = R by rw [← HB.out, scanFits, hin]; rfl)
        go_wp2_with (first | (go_at_call 56; refine (l1In_any _ _ _ _).mono ?_; rintro r w3 ⟨rfl, rfl⟩))
        go_ret
        exact ⟨ret_bool HF.out, by ((repeat (first | (with_reducible exact Below.refl _ _) | (with_reducible assumption) | (with_reducible refine Below.alloc ?_ ?_ _) | (with_reducible refine Below.setCell ?_ ?_ _) | (with_reducible refine Below.drew ?_) | (with_reducible refine below_setRow ?_ ?_ _) | (refine Below.trans ?_ (Below.mono (by assumption) ?_)))); all_goals (first | omega | (simp; done) | (simp; omega)))⟩
      · have HF := Lib.hid (show (decide (d.bits / 2 ^ (8 * d.have_).toNat = 0) && decide (v - d.have_ ≤ room)) = R by rw [← HB.out, scanFits, hin]; rfl)
        have hh : 0 ≤ d.have_ ∧ d.have_ ≤ v - 1 := by simpa only [inB, decide_eq_true_eq] using hin
        have hh0 := hh.1
        have hh1 : d.have_ ≤ 7 := by have := HVC.out; omega
        clear hh HB
        go_wp2_with (first | (go_at_call 56; refine (l1In_any _ _ _ _).mono ?_; rintro r w3 ⟨rfl, rfl⟩))
        all_goals
          go_ret
          refine ⟨ret_bool ?_, by ((repeat (first | (with_reducible exact Below.refl _ _) | (with_reducible assumption) | (with_reducible refine Below.alloc ?_ ?_ _) | (with_reducible refine Below.setCell ?_ ?_ _) | (with_reducible refine Below.drew ?_) | (with_reducible refine below_setRow ?_ ?_ _) | (refine Below.trans ?_ (Below.mono (by assumption) ?_)))); all_goals (first | omega | (simp; done) | (simp; omega)))⟩
          rw [← HF.out]
          simp_all
    · by_cases h8 : d.mode = 8
      · have e5 : (d.mode == 5) = false := by simp [h8]
        have e6 : (d.mode == 6) = false := by simp [h8]
        have e7 : (d.mode == 7) = false := by simp [h8]
        have e8 : (d.mode == 8) = true := by simp [h8]
        have e9 : (d.mode == 9) = false := by simp [h8]
        by_cases hv0 : v = 0
        · have HB := Lib.hid (show scanOk d.bits d.have_ = R by rw [← HR.out, scanD, if_neg h679, if_neg h5, if_pos h8, if_pos (by rw [← HV.out]; exact hv0)])
          clear HR h679 g6 g7 g9 h5 h8
          go_wp2_with fail
          refine (specScanOk_any _ _ _).mono ?_
          rintro r w2 ⟨rfl, hb2⟩
          go_wp2
          go_ret
          exact ⟨ret_bool HB.out, by ((repeat (first | (with_reducible exact Below.refl _ _) | (with_reducible assumption) | (with_reducible refine Below.alloc ?_ ?_ _) | (with_reducible refine Below.setCell ?_ ?_ _) | (with_reducible refine Below.drew ?_) | (with_reducible refine below_setRow ?_ ?_ _) | (refine Below.trans ?_ (Below.mono (by assumption) ?_)))); all_goals (first | omega | (simp; done) | (simp; omega)))⟩
        · have HB := Lib.hid (show scanFits v d.have_ d.bits d.want = R by rw [← HR.out, scanD, if_neg h679, if_neg h5, if_pos h8, if_neg (by rw [← HV.out]; exact hv0), HV.out])
          have ev : (v == 0) = false := by simp [hv0]
          clear HR h679 g6 g7 g9 h5 h8 hv0
          go_wp2_with (first | ((with_reducible show wpList _ _ _ (⟨_, Op.load 66 _, _, _, _, _⟩ :: _) _ _); first | (refine wpList_load_mid rfl 66 _ rfl w.heap.size 0 rfl (Dc.cl d (.slice a n cap) (.slice sa m scap)) _ (range_of_cells (by assumption)) Try.underlying66 rfl size_Dec ?_) | (refine wpList_load_want 66 _ rfl rfl w.heap.size 0 rfl (Dc.cl d (.slice a n cap) (.slice sa m scap)) _ (range_of_cells (by assumption)) Try.underlying66 rfl size_Dec ?_)))
          refine (specTop_any d a cap n xs sa scap m ls _ (HSs.out.keep (by ((repeat (first | (with_reducible exact Below.refl _ _) | (with_reducible assumption) | (with_reducible refine Below.alloc ?_ ?_ _) | (with_reducible refine Below.setCell ?_ ?_ _) | (with_reducible refine Below.drew ?_) | (with_reducible refine below_setRow ?_ ?_ _) | (refine Below.trans ?_ (Below.mono (by assumption) ?_)))); all_goals (first | omega | (simp; done) | (simp; omega))))) (Sl.keep HSl.out (by ((repeat (first | (with_reducible exact Below.refl _ _) | (with_reducible assumption) | (with_reducible refine Below.alloc ?_ ?_ _) | (with_reducible refine Below.setCell ?_ ?_ _) | (with_reducible refine Below.drew ?_) | (with_reducible refine below_setRow ?_ ?_ _) | (refine Below.trans ?_ (Below.mono (by assumption) ?_)))); all_goals (first | omega | (simp; done) | (simp; omega))))) HX.out HL.out hn hm hm').mono ?_
          rintro r w2 ⟨rfl, hb2⟩
          have kA2 := box_next (hb2.mono (Nat.le_refl _)) hBA kA
          have hBA2 := Nat.lt_of_lt_of_le hBA hb2.size
          clear kA
          obtain ⟨room, hroom⟩ : ∃ t, t = d.want := ⟨_, rfl⟩
          rw [← hroom] at HB
          have hv8 : v ≤ 8 := by have := HVC.out; omega
          have hv1 : 0 ≤ v := by have := HVC.out; omega
          cases hin : inB d.have_ 0 (v - 1)
          · have HF := Lib.hid (show false = R by rw [← HB.out, scanFits, hin]; rfl)
            go_wp2_with (first | (go_at_call 56; refine (l1In_any _ _ _ _).mono ?_; rintro r w3 ⟨rfl, rfl⟩))
            go_ret
            exact ⟨ret_bool HF.out, by ((repeat (first | (with_reducible exact Below.refl _ _) | (with_reducible assumption) | (with_reducible refine Below.alloc ?_ ?_ _) | (with_reducible refine Below.setCell ?_ ?_ _) | (with_reducible refine Below.drew ?_) | (with_reducible refine below_setRow ?_ ?_ _) | (refine Below.trans ?_ (Below.mono (by assumption) ?_)))); all_goals (first | omega | (simp; done) | (simp; omega)))⟩
          · have HF := Lib.hid (show (decide (d.bits / 2 ^ (8 * d.have_).toNat = 0) && decide (v - d.have_ ≤ room)) = R by rw [← HB.out, scanFits, hin]; rfl)
            have hh : 0 ≤ d.have_ ∧ d.have_ ≤ v - 1 := by simpa only [inB, decide_eq_true_eq] using hin
            have hh0 := hh.1
            have hh1 : d.have_ ≤ 7 := by have := HVC.out; omega
            clear hh HB
            go_wp2_with (first | (go_at_call 56; refine (l1In_any _ _ _ _).mono ?_; rintro r w3 ⟨rfl, rfl⟩))
            all_goals
              go_ret
              refine ⟨ret_bool ?_, by ((repeat (first | (with_reducible exact Below.refl _ _) | (with_reducible assumption) | (with_reducible refine Below.alloc ?_ ?_ _) | (with_reducible refine Below.setCell ?_ ?_ _) | (with_reducible refine Below.drew ?_) | (with_reducible refine below_setRow ?_ ?_ _) | (refine Below.trans ?_ (Below.mono (by assumption) ?_)))); all_goals (first | omega | (simp; done) | (simp; omega)))⟩
              rw [← HF.out]
              simp_all
      · have HB := Lib.hid (show scanOk d.bits d.have_ = R by rw [← HR.out, scanD, if_neg h679, if_neg h5, if_neg h8])
        have e5 : (d.mode == 5) = false := by simp [h5]
        have e6 : (d.mode == 6) = false := by simp [g6]
        have e7 : (d.mode == 7) = false := by simp [g7]
        have e8 : (d.mode == 8) = false := by simp [h8]
        have e9 : (d.mode == 9) = false := by simp [g9]
        clear HR h679 g6 g7 g9 h5 h8
        go_wp2_with fail
        refine (specScanOk_any _ _ _).mono ?_
        rintro r w2 ⟨rfl, hb2⟩
        go_wp2
        go_ret
        exact ⟨ret_bool HB.out, by ((repeat (first | (with_reducible exact Below.refl _ _) | (with_reducible assumption) | (with_reducible refine Below.alloc ?_ ?_ _) | (with_reducible refine Below.setCell ?_ ?_ _) | (with_reducible refine Below.drew ?_) | (with_reducible refine below_setRow ?_ ?_ _) | (refine Below.trans ?_ (Below.mono (by assumption) ?_)))); all_goals (first | omega | (simp; done) | (simp; omega)))⟩
end Go.Proofs.Ytbgejldjgkihaaa

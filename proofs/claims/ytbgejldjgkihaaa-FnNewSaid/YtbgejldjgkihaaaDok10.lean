/- The program's DecOk. -/
import Derived.Test.YtbgejldjgkihaaaDoj
namespace Go.Proofs.Ytbgejldjgkihaaa
set_option linter.unusedSimpArgs false
set_option linter.unusedVariables false
open Go.ChangeShapes Go.WideShapes Go.ChangeAt Go.RowKit Go.BigFrame

def headI (d : Dc) (xs : List Shp) (ls : List Lvl) (n m : Nat) : Bool :=
  (planOk d.p xs && (decide ((m : Int) ≤ d.p.deep) && ls.all (lvlOk n))) && (inB d.mode 1 9 && (inB d.at_ 0 1000000000 && (inB d.start 0 d.at_ && (utfOk d.utf && wireOk d.wire))))
def stack2 (d : Dc) (m : Nat) (ls : List Lvl) : Bool := if d.mode = 1 then !decide ((0 : Int) < m) else if d.mode = 9 then true else !decide (topL ls < 1)
def tailI (d : Dc) (xs : List Shp) (ls : List Lvl) (m : Nat) : Bool :=
  fieldIn d.field xs && (endOk d && (stack2 d m ls && ((wantOk d ls && kindOk d) && scanD d ls)))
theorem topL_pos {ls : List Lvl} (h : 1 ≤ topL ls) : 1 ≤ ls.length := by
  cases ls with
  | nil => simp [topL] at h
  | cons l ls => simp
theorem planOk_deep {p : Pl} {xs : List Shp} (h : planOk p xs = true) : 1 ≤ p.deep := by
  simp only [planOk, inB, Bool.and_eq_true, decide_eq_true_eq] at h
  omega
theorem stackOk_eq (d : Dc) (n : Nat) (ls : List Lvl) (hd : 1 ≤ d.p.deep) : stackOk d n ls = ((decide ((ls.length : Int) ≤ d.p.deep) && ls.all (lvlOk n)) && stack2 d ls.length ls) := by
  rw [Bool.eq_iff_iff]
  simp only [stackOk, stack2, Bool.and_eq_true, decide_eq_true_eq]
  by_cases h1 : d.mode = 1
  · simp only [if_pos h1, decide_eq_true_eq, Bool.not_eq_true', decide_eq_false_iff_not]
    constructor
    · rintro ⟨ha, hb⟩; exact ⟨⟨by omega, ha⟩, by omega⟩
    · rintro ⟨⟨ha, hb⟩, hc⟩; exact ⟨hb, by omega⟩
  · by_cases h9 : d.mode = 9
    · simp only [if_neg h1, if_pos h9, decide_eq_true_eq]
      constructor
      · rintro ⟨ha, hb⟩; exact ⟨⟨hb, ha⟩, trivial⟩
      · rintro ⟨⟨ha, hb⟩, hc⟩; exact ⟨hb, ha⟩
    · simp only [if_neg h1, if_neg h9, Bool.and_eq_true, inB, decide_eq_true_eq, Bool.not_eq_true', decide_eq_false_iff_not]
      constructor
      · rintro ⟨ha, hb, hc⟩; exact ⟨⟨by omega, ha⟩, by omega⟩
      · rintro ⟨⟨ha, hb⟩, hc⟩; have := topL_pos (ls := ls) (by omega); exact ⟨hb, by omega, by omega⟩
theorem decOk_parts {d : Dc} {xs : List Shp} {ls : List Lvl} {n m : Nat} (hx : xs.length = n) (hl : ls.length = m) : decOk d xs ls = (headI d xs ls n m && tailI d xs ls m) := by
  subst hx hl
  cases hp : planOk d.p xs
  · simp only [decOk, headOk, headI, hp, Bool.false_and]
  · simp only [decOk, headOk, headI, tailI, hp, Bool.true_and]
    rw [stackOk_eq d xs.length ls (planOk_deep hp)]
    rw [Bool.eq_iff_iff]
    simp only [Bool.and_eq_true]
    exact ⟨fun ⟨⟨h3, h4, h5, h6, h7, h8, ⟨h1, h2⟩, h9⟩, h10, h11, h12, h13⟩ => ⟨⟨⟨h1, h2⟩, h3, h4, h5, h6, h7⟩, h8, h10, h9, ⟨h11, h12⟩, h13⟩,
      fun ⟨⟨⟨h1, h2⟩, h3, h4, h5, h6, h7⟩, h8, h10, h9, ⟨h11, h12⟩, h13⟩ => ⟨⟨h3, h4, h5, h6, h7, h8, ⟨h1, h2⟩, h9⟩, h10, h11, h12, h13⟩⟩
theorem kind_width {d : Dc} {ls : List Lvl} (h : (wantOk d ls && kindOk d) = true) : d.mode = 5 → ¬ widthD d = 0 := by
  intro h5 hw
  simp only [Bool.and_eq_true] at h
  have := h.2
  simp [kindOk, h5] at this
  exact this.1 (by simpa [widthD, h5] using hw)
set_option maxRecDepth 100000 in
set_option maxHeartbeats 8000000 in
theorem implDecOk_head (d : Dc) (a : Option Addr) (cap n : Nat) (xs : List Shp) (sa : Option Addr) (scap m : Nat) (ls : List Lvl) (w : World) (h : Shs w a xs) (h' : Lvls w sa ls) (hx : xs.length = n) (hl : ls.length = m) (hn : n ≤ 1048576) (hm : fldSum xs ≤ 1048576) (hm' : m ≤ 1048576) (hh : headI d xs ls n m = false) :
    Calls Try.prog 24 #[d.val (.slice a n cap) (.slice sa m scap)] w fun r w' => r = .returned (.bool false) ∧ Below w.heap.size w w' := by
  have HL := Lib.hid hl; clear hl
  have HX := Lib.hid hx; clear hx
  have HSs := Lib.hid h; clear h
  have HSl := Lib.hid h'; clear h'
  have HH := Lib.hid hh; clear hh
  go_enter Try.func24, Try.ntmps24
  go_wp2_with (first | ((with_reducible show wpList _ _ _ (⟨_, Op.load 66 _, _, _, _, _⟩ :: _) _ _); first | (refine wpList_load_mid rfl 66 _ rfl w.heap.size 0 rfl (Dc.cl d (.slice a n cap) (.slice sa m scap)) _ (range_of_box (t := 66) (hset_new rfl)) Try.underlying66 rfl size_Dec ?_) | (refine wpList_load_want 66 _ rfl rfl w.heap.size 0 rfl (Dc.cl d (.slice a n cap) (.slice sa m scap)) _ (range_of_box (t := 66) (hset_new rfl)) Try.underlying66 rfl size_Dec ?_)))
  refine (levelsOk_any d a cap n xs sa scap m ls _ (HSs.out.keep (by ((repeat (first | (with_reducible exact Below.refl _ _) | (with_reducible assumption) | (with_reducible refine Below.alloc ?_ ?_ _) | (with_reducible refine Below.setCell ?_ ?_ _) | (with_reducible refine Below.drew ?_) | (with_reducible refine below_setRow ?_ ?_ _) | (refine Below.trans ?_ (Below.mono (by assumption) ?_)))); all_goals (first | omega | (simp; done) | (simp; omega))))) (Sl.keep HSl.out (by ((repeat (first | (with_reducible exact Below.refl _ _) | (with_reducible assumption) | (with_reducible refine Below.alloc ?_ ?_ _) | (with_reducible refine Below.setCell ?_ ?_ _) | (with_reducible refine Below.drew ?_) | (with_reducible refine below_setRow ?_ ?_ _) | (refine Below.trans ?_ (Below.mono (by assumption) ?_)))); all_goals (first | omega | (simp; done) | (simp; omega))))) HX.out HL.out hn hm hm').mono ?_
  rintro r w1 ⟨rfl, hb1⟩
  have hz1 := hb1.size
  try simp only [World.size_alloc, World.size_setCell, World.size_drew] at hz1
  have hb1b : Below w.heap.size w w1 := by ((repeat (first | (with_reducible exact Below.refl _ _) | (with_reducible assumption) | (with_reducible refine Below.alloc ?_ ?_ _) | (with_reducible refine Below.setCell ?_ ?_ _) | (with_reducible refine Below.drew ?_) | (with_reducible refine below_setRow ?_ ?_ _) | (refine Below.trans ?_ (Below.mono (by assumption) ?_)))); all_goals (first | omega | (simp; done) | (simp; omega)))
  have kA := box_new0 hb1
  have hBA := box_lt0 hb1
  try simp only [World.size_alloc, World.size_setCell, World.size_drew] at kA
  try simp only [World.size_alloc, World.size_setCell, World.size_drew] at hBA
  clear hb1; have hb1 := hb1b; clear hb1b
  cases h1 : (planOk d.p xs && (decide ((m : Int) ≤ d.p.deep) && ls.all (lvlOk n)))
  · skip
    skip
    go_wp2
    go_ret
    exact ⟨rfl, by ((repeat (first | (with_reducible exact Below.refl _ _) | (with_reducible assumption) | (with_reducible refine Below.alloc ?_ ?_ _) | (with_reducible refine Below.setCell ?_ ?_ _) | (with_reducible refine Below.drew ?_) | (with_reducible refine below_setRow ?_ ?_ _) | (refine Below.trans ?_ (Below.mono (by assumption) ?_)))); all_goals (first | omega | (simp; done) | (simp; omega)))⟩
  · skip
    go_wp2_with (first | ((with_reducible show wpList _ _ _ (⟨_, Op.load 66 _, _, _, _, _⟩ :: _) _ _); first | (refine wpList_load_mid rfl 66 _ rfl w.heap.size 0 rfl (Dc.cl d (.slice a n cap) (.slice sa m scap)) _ (range_of_cells (by assumption)) Try.underlying66 rfl size_Dec ?_) | (refine wpList_load_want 66 _ rfl rfl w.heap.size 0 rfl (Dc.cl d (.slice a n cap) (.slice sa m scap)) _ (range_of_cells (by assumption)) Try.underlying66 rfl size_Dec ?_)))
    refine (within_any _ _ _ _).mono ?_
    rintro r wx2 ⟨rfl, rfl⟩
    cases h2 : inB d.mode 1 9
    · skip
      skip
      go_wp2
      go_ret
      exact ⟨rfl, by ((repeat (first | (with_reducible exact Below.refl _ _) | (with_reducible assumption) | (with_reducible refine Below.alloc ?_ ?_ _) | (with_reducible refine Below.setCell ?_ ?_ _) | (with_reducible refine Below.drew ?_) | (with_reducible refine below_setRow ?_ ?_ _) | (refine Below.trans ?_ (Below.mono (by assumption) ?_)))); all_goals (first | omega | (simp; done) | (simp; omega)))⟩
    · skip
      go_wp2_with (first | ((with_reducible show wpList _ _ _ (⟨_, Op.load 66 _, _, _, _, _⟩ :: _) _ _); first | (refine wpList_load_mid rfl 66 _ rfl w.heap.size 0 rfl (Dc.cl d (.slice a n cap) (.slice sa m scap)) _ (range_of_cells (by assumption)) Try.underlying66 rfl size_Dec ?_) | (refine wpList_load_want 66 _ rfl rfl w.heap.size 0 rfl (Dc.cl d (.slice a n cap) (.slice sa m scap)) _ (range_of_cells (by assumption)) Try.underlying66 rfl size_Dec ?_)))
      refine (within_any _ _ _ _).mono ?_
      rintro r wx3 ⟨rfl, rfl⟩
      cases h3 : inB d.at_ 0 1000000000
      · skip
        skip
        go_wp2
        go_ret
        exact ⟨rfl, by ((repeat (first | (with_reducible exact Below.refl _ _) | (with_reducible assumption) | (with_reducible refine Below.alloc ?_ ?_ _) | (with_reducible refine Below.setCell ?_ ?_ _) | (with_reducible refine Below.drew ?_) | (with_reducible refine below_setRow ?_ ?_ _) | (refine Below.trans ?_ (Below.mono (by assumption) ?_)))); all_goals (first | omega | (simp; done) | (simp; omega)))⟩
      · skip
        go_wp2_with (first | ((with_reducible show wpList _ _ _ (⟨_, Op.load 66 _, _, _, _, _⟩ :: _) _ _); first | (refine wpList_load_mid rfl 66 _ rfl w.heap.size 0 rfl (Dc.cl d (.slice a n cap) (.slice sa m scap)) _ (range_of_cells (by assumption)) Try.underlying66 rfl size_Dec ?_) | (refine wpList_load_want 66 _ rfl rfl w.heap.size 0 rfl (Dc.cl d (.slice a n cap) (.slice sa m scap)) _ (range_of_cells (by assumption)) Try.underlying66 rfl size_Dec ?_)))
        refine (within_any _ _ _ _).mono ?_
        rintro r wx4 ⟨rfl, rfl⟩
        cases h4 : inB d.start 0 d.at_
        · skip
          skip
          go_wp2
          go_ret
          exact ⟨rfl, by ((repeat (first | (with_reducible exact Below.refl _ _) | (with_reducible assumption) | (with_reducible refine Below.alloc ?_ ?_ _) | (with_reducible refine Below.setCell ?_ ?_ _) | (with_reducible refine Below.drew ?_) | (with_reducible refine below_setRow ?_ ?_ _) | (refine Below.trans ?_ (Below.mono (by assumption) ?_)))); all_goals (first | omega | (simp; done) | (simp; omega)))⟩
        · skip
          go_wp2_with (first | ((with_reducible show wpList _ _ _ (⟨_, Op.load 66 _, _, _, _, _⟩ :: _) _ _); first | (refine wpList_load_mid rfl 66 _ rfl w.heap.size 0 rfl (Dc.cl d (.slice a n cap) (.slice sa m scap)) _ (range_of_cells (by assumption)) Try.underlying66 rfl size_Dec ?_) | (refine wpList_load_want 66 _ rfl rfl w.heap.size 0 rfl (Dc.cl d (.slice a n cap) (.slice sa m scap)) _ (range_of_cells (by assumption)) Try.underlying66 rfl size_Dec ?_)))
          refine (implUtfOk_any d.utf _).mono ?_
          rintro r w5 ⟨rfl, hb5⟩
          have hz5 := hb5.size
          try simp only [World.size_alloc, World.size_setCell, World.size_drew] at hz5
          have hb5b : Below w1.heap.size w1 w5 := by ((repeat (first | (with_reducible exact Below.refl _ _) | (with_reducible assumption) | (with_reducible refine Below.alloc ?_ ?_ _) | (with_reducible refine Below.setCell ?_ ?_ _) | (with_reducible refine Below.drew ?_) | (with_reducible refine below_setRow ?_ ?_ _) | (refine Below.trans ?_ (Below.mono (by assumption) ?_)))); all_goals (first | omega | (simp; done) | (simp; omega)))
          have kA_ := box_next hb5b hBA kA; clear kA
          have kA := kA_; clear kA_
          have hBA_ := Nat.lt_of_lt_of_le hBA hb5b.size; clear hBA; have hBA := hBA_; clear hBA_
          clear hb5; have hb5 := hb5b; clear hb5b
          cases h5 : utfOk d.utf
          · skip
            skip
            go_wp2
            go_ret
            exact ⟨rfl, by ((repeat (first | (with_reducible exact Below.refl _ _) | (with_reducible assumption) | (with_reducible refine Below.alloc ?_ ?_ _) | (with_reducible refine Below.setCell ?_ ?_ _) | (with_reducible refine Below.drew ?_) | (with_reducible refine below_setRow ?_ ?_ _) | (refine Below.trans ?_ (Below.mono (by assumption) ?_)))); all_goals (first | omega | (simp; done) | (simp; omega)))⟩
          · skip
            go_wp2_with (first | ((with_reducible show wpList _ _ _ (⟨_, Op.load 66 _, _, _, _, _⟩ :: _) _ _); first | (refine wpList_load_mid rfl 66 _ rfl w.heap.size 0 rfl (Dc.cl d (.slice a n cap) (.slice sa m scap)) _ (range_of_cells (by assumption)) Try.underlying66 rfl size_Dec ?_) | (refine wpList_load_want 66 _ rfl rfl w.heap.size 0 rfl (Dc.cl d (.slice a n cap) (.slice sa m scap)) _ (range_of_cells (by assumption)) Try.underlying66 rfl size_Dec ?_)))
            refine (implWireOk_any _ _).mono ?_
            rintro r wx6 ⟨rfl, rfl⟩
            cases h6 : wireOk d.wire
            · skip
              skip
              go_wp2
              go_ret
              exact ⟨rfl, by ((repeat (first | (with_reducible exact Below.refl _ _) | (with_reducible assumption) | (with_reducible refine Below.alloc ?_ ?_ _) | (with_reducible refine Below.setCell ?_ ?_ _) | (with_reducible refine Below.drew ?_) | (with_reducible refine below_setRow ?_ ?_ _) | (refine Below.trans ?_ (Below.mono (by assumption) ?_)))); all_goals (first | omega | (simp; done) | (simp; omega)))⟩
            · skip
              exact absurd HH.out (by simp only [headI, h1, h2, h3, h4, h5, h6, Bool.true_and]; decide)
set_option maxRecDepth 100000 in
set_option maxHeartbeats 8000000 in
theorem implDecOk_k1 (d : Dc) (a : Option Addr) (cap n : Nat) (xs : List Shp) (sa : Option Addr) (scap m : Nat) (ls : List Lvl) (w : World) (h : Shs w a xs) (h' : Lvls w sa ls) (hx : xs.length = n) (hl : ls.length = m) (hn : n ≤ 1048576) (hm : fldSum xs ≤ 1048576) (hm' : m ≤ 1048576) (h1 : (planOk d.p xs && (decide ((m : Int) ≤ d.p.deep) && ls.all (lvlOk n))) = true) (h2 : inB d.mode 1 9 = true) (h3 : inB d.at_ 0 1000000000 = true) (h4 : inB d.start 0 d.at_ = true) (h5 : utfOk d.utf = true) (h6 : wireOk d.wire = true) (hM : d.mode = 1) (R : Bool) (hT : tailI d xs ls m = R) :
    Calls Try.prog 24 #[d.val (.slice a n cap) (.slice sa m scap)] w fun r w' => r = .returned (.bool R) ∧ Below w.heap.size w w' := by
  have HL := Lib.hid hl; clear hl
  have HX := Lib.hid hx; clear hx
  have HSs := Lib.hid h; clear h
  have HSl := Lib.hid h'; clear h'
  have e1 : (d.mode == 1) = true := by simp [hM]
  have b1 : (d.mode != 1) = false := by simp [hM]
  have e9 : (d.mode == 9) = false := by simp [hM]
  have b9 : (d.mode != 9) = true := by simp [hM]
  have hE0 : endOk d = sameEv ⟨d.end_.kind, d.end_.field, d.end_.bits, d.end_.len, d.end_.text, d.end_.code, d.end_.at_⟩ ⟨0, 0, 0, 0, ⟨#[]⟩, 0, 0⟩ := by simp only [endOk, hM]; try rfl
  have hS0 : stack2 d m ls = !decide ((0 : Int) < m) := by simp only [stack2, hM]; try rfl
  have hF0 : fieldIn d.field xs = (sameF ⟨d.field.number, d.field.kind, d.field.rep, d.field.packed, d.field.msg⟩ ⟨0, 0, false, false, 0⟩ || known d.field xs) := rfl
  simp only [tailI] at hT
  rw [hE0, hS0, hF0] at hT
  have HT := Lib.hid hT; clear hT hE0 hS0 hF0 hM
  have hne1 := run_neq_ev
  have hne2 := run_neq_fld
  go_enter Try.func24, Try.ntmps24
  go_wp2_with (first | ((with_reducible show wpList _ _ _ (⟨_, Op.load 66 _, _, _, _, _⟩ :: _) _ _); first | (refine wpList_load_mid rfl 66 _ rfl w.heap.size 0 rfl (Dc.cl d (.slice a n cap) (.slice sa m scap)) _ (range_of_box (t := 66) (hset_new rfl)) Try.underlying66 rfl size_Dec ?_) | (refine wpList_load_want 66 _ rfl rfl w.heap.size 0 rfl (Dc.cl d (.slice a n cap) (.slice sa m scap)) _ (range_of_box (t := 66) (hset_new rfl)) Try.underlying66 rfl size_Dec ?_)))
  refine (levelsOk_any d a cap n xs sa scap m ls _ (HSs.out.keep (by ((repeat (first | (with_reducible exact Below.refl _ _) | (with_reducible assumption) | (with_reducible refine Below.alloc ?_ ?_ _) | (with_reducible refine Below.setCell ?_ ?_ _) | (with_reducible refine Below.drew ?_) | (with_reducible refine below_setRow ?_ ?_ _) | (refine Below.trans ?_ (Below.mono (by assumption) ?_)))); all_goals (first | omega | (simp; done) | (simp; omega))))) (Sl.keep HSl.out (by ((repeat (first | (with_reducible exact Below.refl _ _) | (with_reducible assumption) | (with_reducible refine Below.alloc ?_ ?_ _) | (with_reducible refine Below.setCell ?_ ?_ _) | (with_reducible refine Below.drew ?_) | (with_reducible refine below_setRow ?_ ?_ _) | (refine Below.trans ?_ (Below.mono (by assumption) ?_)))); all_goals (first | omega | (simp; done) | (simp; omega))))) HX.out HL.out hn hm hm').mono ?_
  rintro r w1 ⟨rfl, hb1⟩
  have hz1 := hb1.size
  try simp only [World.size_alloc, World.size_setCell, World.size_drew] at hz1
  have hb1b : Below w.heap.size w w1 := by ((repeat (first | (with_reducible exact Below.refl _ _) | (with_reducible assumption) | (with_reducible refine Below.alloc ?_ ?_ _) | (with_reducible refine Below.setCell ?_ ?_ _) | (with_reducible refine Below.drew ?_) | (with_reducible refine below_setRow ?_ ?_ _) | (refine Below.trans ?_ (Below.mono (by assumption) ?_)))); all_goals (first | omega | (simp; done) | (simp; omega)))
  have kA := box_new0 hb1
  have hBA := box_lt0 hb1
  try simp only [World.size_alloc, World.size_setCell, World.size_drew] at kA
  try simp only [World.size_alloc, World.size_setCell, World.size_drew] at hBA
  clear hb1; have hb1 := hb1b; clear hb1b
  rw [h1]
  go_wp2_with (first | ((with_reducible show wpList _ _ _ (⟨_, Op.load 66 _, _, _, _, _⟩ :: _) _ _); first | (refine wpList_load_mid rfl 66 _ rfl w.heap.size 0 rfl (Dc.cl d (.slice a n cap) (.slice sa m scap)) _ (range_of_cells (by assumption)) Try.underlying66 rfl size_Dec ?_) | (refine wpList_load_want 66 _ rfl rfl w.heap.size 0 rfl (Dc.cl d (.slice a n cap) (.slice sa m scap)) _ (range_of_cells (by assumption)) Try.underlying66 rfl size_Dec ?_)))
  refine (within_any _ _ _ _).mono ?_
  rintro r wx2 ⟨rfl, rfl⟩
  rw [h2]
  go_wp2_with (first | ((with_reducible show wpList _ _ _ (⟨_, Op.load 66 _, _, _, _, _⟩ :: _) _ _); first | (refine wpList_load_mid rfl 66 _ rfl w.heap.size 0 rfl (Dc.cl d (.slice a n cap) (.slice sa m scap)) _ (range_of_cells (by assumption)) Try.underlying66 rfl size_Dec ?_) | (refine wpList_load_want 66 _ rfl rfl w.heap.size 0 rfl (Dc.cl d (.slice a n cap) (.slice sa m scap)) _ (range_of_cells (by assumption)) Try.underlying66 rfl size_Dec ?_)))
  refine (within_any _ _ _ _).mono ?_
  rintro r wx3 ⟨rfl, rfl⟩
  rw [h3]
  go_wp2_with (first | ((with_reducible show wpList _ _ _ (⟨_, Op.load 66 _, _, _, _, _⟩ :: _) _ _); first | (refine wpList_load_mid rfl 66 _ rfl w.heap.size 0 rfl (Dc.cl d (.slice a n cap) (.slice sa m scap)) _ (range_of_cells (by assumption)) Try.underlying66 rfl size_Dec ?_) | (refine wpList_load_want 66 _ rfl rfl w.heap.size 0 rfl (Dc.cl d (.slice a n cap) (.slice sa m scap)) _ (range_of_cells (by assumption)) Try.underlying66 rfl size_Dec ?_)))
  refine (within_any _ _ _ _).mono ?_
  rintro r wx4 ⟨rfl, rfl⟩
  rw [h4]
  go_wp2_with (first | ((with_reducible show wpList _ _ _ (⟨_, Op.load 66 _, _, _, _, _⟩ :: _) _ _); first | (refine wpList_load_mid rfl 66 _ rfl w.heap.size 0 rfl (Dc.cl d (.slice a n cap) (.slice sa m scap)) _ (range_of_cells (by assumption)) Try.underlying66 rfl size_Dec ?_) | (refine wpList_load_want 66 _ rfl rfl w.heap.size 0 rfl (Dc.cl d (.slice a n cap) (.slice sa m scap)) _ (range_of_cells (by assumption)) Try.underlying66 rfl size_Dec ?_)))
  refine (implUtfOk_any d.utf _).mono ?_
  rintro r w5 ⟨rfl, hb5⟩
  have hz5 := hb5.size
  try simp only [World.size_alloc, World.size_setCell, World.size_drew] at hz5
  have hb5b : Below w1.heap.size w1 w5 := by ((repeat (first | (with_reducible exact Below.refl _ _) | (with_reducible assumption) | (with_reducible refine Below.alloc ?_ ?_ _) | (with_reducible refine Below.setCell ?_ ?_ _) | (with_reducible refine Below.drew ?_) | (with_reducible refine below_setRow ?_ ?_ _) | (refine Below.trans ?_ (Below.mono (by assumption) ?_)))); all_goals (first | omega | (simp; done) | (simp; omega)))
  have kA_ := box_next hb5b hBA kA; clear kA
  have kA := kA_; clear kA_
  have hBA_ := Nat.lt_of_lt_of_le hBA hb5b.size; clear hBA; have hBA := hBA_; clear hBA_
  clear hb5; have hb5 := hb5b; clear hb5b
  rw [h5]
  go_wp2_with (first | ((with_reducible show wpList _ _ _ (⟨_, Op.load 66 _, _, _, _, _⟩ :: _) _ _); first | (refine wpList_load_mid rfl 66 _ rfl w.heap.size 0 rfl (Dc.cl d (.slice a n cap) (.slice sa m scap)) _ (range_of_cells (by assumption)) Try.underlying66 rfl size_Dec ?_) | (refine wpList_load_want 66 _ rfl rfl w.heap.size 0 rfl (Dc.cl d (.slice a n cap) (.slice sa m scap)) _ (range_of_cells (by assumption)) Try.underlying66 rfl size_Dec ?_)))
  refine (implWireOk_any _ _).mono ?_
  rintro r wx6 ⟨rfl, rfl⟩
  rw [h6]
  cases gF : sameF ⟨d.field.number, d.field.kind, d.field.rep, d.field.packed, d.field.msg⟩ ⟨0, 0, false, false, 0⟩
  · skip
    go_wp2_with (first | ((with_reducible show wpList _ _ _ (⟨_, Op.load 66 _, _, _, _, _⟩ :: _) _ _); first | (refine wpList_load_mid rfl 66 _ rfl w.heap.size 0 rfl (Dc.cl d (.slice a n cap) (.slice sa m scap)) _ (range_of_cells (by assumption)) Try.underlying66 rfl size_Dec ?_) | (refine wpList_load_want 66 _ rfl rfl w.heap.size 0 rfl (Dc.cl d (.slice a n cap) (.slice sa m scap)) _ (range_of_cells (by assumption)) Try.underlying66 rfl size_Dec ?_)))
    refine (knownField_any d.p a cap n xs d.field _ (HSs.out.keep (by ((repeat (first | (with_reducible exact Below.refl _ _) | (with_reducible assumption) | (with_reducible refine Below.alloc ?_ ?_ _) | (with_reducible refine Below.setCell ?_ ?_ _) | (with_reducible refine Below.drew ?_) | (with_reducible refine below_setRow ?_ ?_ _) | (refine Below.trans ?_ (Below.mono (by assumption) ?_)))); all_goals (first | omega | (simp; done) | (simp; omega))))) HX.out hn hm).mono ?_
    rintro r w8 ⟨rfl, hb8⟩
    have hz8 := hb8.size
    try simp only [World.size_alloc, World.size_setCell, World.size_drew] at hz8
    have hb8b : Below w5.heap.size w5 w8 := by ((repeat (first | (with_reducible exact Below.refl _ _) | (with_reducible assumption) | (with_reducible refine Below.alloc ?_ ?_ _) | (with_reducible refine Below.setCell ?_ ?_ _) | (with_reducible refine Below.drew ?_) | (with_reducible refine below_setRow ?_ ?_ _) | (refine Below.trans ?_ (Below.mono (by assumption) ?_)))); all_goals (first | omega | (simp; done) | (simp; omega)))
    have kA_ := box_next hb8b hBA kA; clear kA
    have kA := kA_; clear kA_
    have hBA_ := Nat.lt_of_lt_of_le hBA hb8b.size; clear hBA; have hBA := hBA_; clear hBA_
    clear hb8; have hb8 := hb8b; clear hb8b
    cases gK : known d.field xs
    · skip
      have HB := Lib.hid (show false = R by rw [← HT.out]; simp only [gF, gK, Bool.and_false, Bool.false_and, Bool.true_and, Bool.and_true, Bool.not_true, Bool.not_false, Bool.or_true, Bool.true_or, Bool.or_false, Bool.false_or])
      clear HT
      go_wp2_with (first | ((with_reducible show wpList _ _ _ (⟨_, Op.load 66 _, _, _, _, _⟩ :: _) _ _); first | (refine wpList_load_mid rfl 66 _ rfl w.heap.size 0 rfl (Dc.cl d (.slice a n cap) (.slice sa m scap)) _ (range_of_cells (by assumption)) Try.underlying66 rfl size_Dec ?_) | (refine wpList_load_want 66 _ rfl rfl w.heap.size 0 rfl (Dc.cl d (.slice a n cap) (.slice sa m scap)) _ (range_of_cells (by assumption)) Try.underlying66 rfl size_Dec ?_)))
      go_ret
      exact ⟨ret_bool HB.out, by ((repeat (first | (with_reducible exact Below.refl _ _) | (with_reducible assumption) | (with_reducible refine Below.alloc ?_ ?_ _) | (with_reducible refine Below.setCell ?_ ?_ _) | (with_reducible refine Below.drew ?_) | (with_reducible refine below_setRow ?_ ?_ _) | (refine Below.trans ?_ (Below.mono (by assumption) ?_)))); all_goals (first | omega | (simp; done) | (simp; omega)))⟩
    · skip
      cases g1 : sameEv ⟨d.end_.kind, d.end_.field, d.end_.bits, d.end_.len, d.end_.text, d.end_.code, d.end_.at_⟩ ⟨0, 0, 0, 0, ⟨#[]⟩, 0, 0⟩
      · skip
        have HB := Lib.hid (show false = R by rw [← HT.out]; simp only [gF, gK, g1, Bool.and_false, Bool.false_and, Bool.true_and, Bool.and_true, Bool.not_true, Bool.not_false, Bool.or_true, Bool.true_or, Bool.or_false, Bool.false_or])
        clear HT
        go_wp2_with (first | ((with_reducible show wpList _ _ _ (⟨_, Op.load 66 _, _, _, _, _⟩ :: _) _ _); first | (refine wpList_load_mid rfl 66 _ rfl w.heap.size 0 rfl (Dc.cl d (.slice a n cap) (.slice sa m scap)) _ (range_of_cells (by assumption)) Try.underlying66 rfl size_Dec ?_) | (refine wpList_load_want 66 _ rfl rfl w.heap.size 0 rfl (Dc.cl d (.slice a n cap) (.slice sa m scap)) _ (range_of_cells (by assumption)) Try.underlying66 rfl size_Dec ?_)))
        go_ret
        exact ⟨ret_bool HB.out, by ((repeat (first | (with_reducible exact Below.refl _ _) | (with_reducible assumption) | (with_reducible refine Below.alloc ?_ ?_ _) | (with_reducible refine Below.setCell ?_ ?_ _) | (with_reducible refine Below.drew ?_) | (with_reducible refine below_setRow ?_ ?_ _) | (refine Below.trans ?_ (Below.mono (by assumption) ?_)))); all_goals (first | omega | (simp; done) | (simp; omega)))⟩
      · skip
        cases gS : decide ((0 : Int) < m)
        · have gS2 : ¬ 0 < m := by simp at gS; omega
          go_wp2_with (first | ((with_reducible show wpList _ _ _ (⟨_, Op.load 66 _, _, _, _, _⟩ :: _) _ _); first | (refine wpList_load_mid rfl 66 _ rfl w.heap.size 0 rfl (Dc.cl d (.slice a n cap) (.slice sa m scap)) _ (range_of_cells (by assumption)) Try.underlying66 rfl size_Dec ?_) | (refine wpList_load_want 66 _ rfl rfl w.heap.size 0 rfl (Dc.cl d (.slice a n cap) (.slice sa m scap)) _ (range_of_cells (by assumption)) Try.underlying66 rfl size_Dec ?_)))
          refine (implModeOk_any d a cap n xs sa scap m ls _ (HSs.out.keep (by ((repeat (first | (with_reducible exact Below.refl _ _) | (with_reducible assumption) | (with_reducible refine Below.alloc ?_ ?_ _) | (with_reducible refine Below.setCell ?_ ?_ _) | (with_reducible refine Below.drew ?_) | (with_reducible refine below_setRow ?_ ?_ _) | (refine Below.trans ?_ (Below.mono (by assumption) ?_)))); all_goals (first | omega | (simp; done) | (simp; omega))))) (Sl.keep HSl.out (by ((repeat (first | (with_reducible exact Below.refl _ _) | (with_reducible assumption) | (with_reducible refine Below.alloc ?_ ?_ _) | (with_reducible refine Below.setCell ?_ ?_ _) | (with_reducible refine Below.drew ?_) | (with_reducible refine below_setRow ?_ ?_ _) | (refine Below.trans ?_ (Below.mono (by assumption) ?_)))); all_goals (first | omega | (simp; done) | (simp; omega))))) HX.out HL.out hn hm hm' h2 h6).mono ?_
          rintro r w20 ⟨rfl, hb20⟩
          have hz20 := hb20.size
          try simp only [World.size_alloc, World.size_setCell, World.size_drew] at hz20
          have hb20b : Below w8.heap.size w8 w20 := by ((repeat (first | (with_reducible exact Below.refl _ _) | (with_reducible assumption) | (with_reducible refine Below.alloc ?_ ?_ _) | (with_reducible refine Below.setCell ?_ ?_ _) | (with_reducible refine Below.drew ?_) | (with_reducible refine below_setRow ?_ ?_ _) | (refine Below.trans ?_ (Below.mono (by assumption) ?_)))); all_goals (first | omega | (simp; done) | (simp; omega)))
          have kA_ := box_next hb20b hBA kA; clear kA
          have kA := kA_; clear kA_
          have hBA_ := Nat.lt_of_lt_of_le hBA hb20b.size; clear hBA; have hBA := hBA_; clear hBA_
          clear hb20; have hb20 := hb20b; clear hb20b
          cases gM : (wantOk d ls && kindOk d)
          · skip
            have HB := Lib.hid (show false = R by rw [← HT.out]; simp only [gF, gK, g1, gS, gM, Bool.and_false, Bool.false_and, Bool.true_and, Bool.and_true, Bool.not_true, Bool.not_false, Bool.or_true, Bool.true_or, Bool.or_false, Bool.false_or])
            clear HT
            go_wp2_with (first | ((with_reducible show wpList _ _ _ (⟨_, Op.load 66 _, _, _, _, _⟩ :: _) _ _); first | (refine wpList_load_mid rfl 66 _ rfl w.heap.size 0 rfl (Dc.cl d (.slice a n cap) (.slice sa m scap)) _ (range_of_cells (by assumption)) Try.underlying66 rfl size_Dec ?_) | (refine wpList_load_want 66 _ rfl rfl w.heap.size 0 rfl (Dc.cl d (.slice a n cap) (.slice sa m scap)) _ (range_of_cells (by assumption)) Try.underlying66 rfl size_Dec ?_)))
            go_ret
            exact ⟨ret_bool HB.out, by ((repeat (first | (with_reducible exact Below.refl _ _) | (with_reducible assumption) | (with_reducible refine Below.alloc ?_ ?_ _) | (with_reducible refine Below.setCell ?_ ?_ _) | (with_reducible refine Below.drew ?_) | (with_reducible refine below_setRow ?_ ?_ _) | (refine Below.trans ?_ (Below.mono (by assumption) ?_)))); all_goals (first | omega | (simp; done) | (simp; omega)))⟩
          · skip
            have hw5 := kind_width gM
            go_wp2_with (first | ((with_reducible show wpList _ _ _ (⟨_, Op.load 66 _, _, _, _, _⟩ :: _) _ _); first | (refine wpList_load_mid rfl 66 _ rfl w.heap.size 0 rfl (Dc.cl d (.slice a n cap) (.slice sa m scap)) _ (range_of_cells (by assumption)) Try.underlying66 rfl size_Dec ?_) | (refine wpList_load_want 66 _ rfl rfl w.heap.size 0 rfl (Dc.cl d (.slice a n cap) (.slice sa m scap)) _ (range_of_cells (by assumption)) Try.underlying66 rfl size_Dec ?_)))
            refine (implScanD_any d a cap n xs sa scap m ls _ (HSs.out.keep (by ((repeat (first | (with_reducible exact Below.refl _ _) | (with_reducible assumption) | (with_reducible refine Below.alloc ?_ ?_ _) | (with_reducible refine Below.setCell ?_ ?_ _) | (with_reducible refine Below.drew ?_) | (with_reducible refine below_setRow ?_ ?_ _) | (refine Below.trans ?_ (Below.mono (by assumption) ?_)))); all_goals (first | omega | (simp; done) | (simp; omega))))) (Sl.keep HSl.out (by ((repeat (first | (with_reducible exact Below.refl _ _) | (with_reducible assumption) | (with_reducible refine Below.alloc ?_ ?_ _) | (with_reducible refine Below.setCell ?_ ?_ _) | (with_reducible refine Below.drew ?_) | (with_reducible refine below_setRow ?_ ?_ _) | (refine Below.trans ?_ (Below.mono (by assumption) ?_)))); all_goals (first | omega | (simp; done) | (simp; omega))))) HX.out HL.out hn hm hm' hw5).mono ?_
            rintro r w21 ⟨rfl, hb21⟩
            have hz21 := hb21.size
            try simp only [World.size_alloc, World.size_setCell, World.size_drew] at hz21
            have hb21b : Below w20.heap.size w20 w21 := by ((repeat (first | (with_reducible exact Below.refl _ _) | (with_reducible assumption) | (with_reducible refine Below.alloc ?_ ?_ _) | (with_reducible refine Below.setCell ?_ ?_ _) | (with_reducible refine Below.drew ?_) | (with_reducible refine below_setRow ?_ ?_ _) | (refine Below.trans ?_ (Below.mono (by assumption) ?_)))); all_goals (first | omega | (simp; done) | (simp; omega)))
            have kA_ := box_next hb21b hBA kA; clear kA
            have kA := kA_; clear kA_
            have hBA_ := Nat.lt_of_lt_of_le hBA hb21b.size; clear hBA; have hBA := hBA_; clear hBA_
            clear hb21; have hb21 := hb21b; clear hb21b
            have HB := Lib.hid (show scanD d ls = R by rw [← HT.out]; simp only [gF, gK, g1, gS, gM, Bool.and_false, Bool.false_and, Bool.true_and, Bool.and_true, Bool.not_true, Bool.not_false, Bool.or_true, Bool.true_or, Bool.or_false, Bool.false_or])
            rw [HB.out]
            go_wp2
            go_ret
            exact ⟨rfl, by ((repeat (first | (with_reducible exact Below.refl _ _) | (with_reducible assumption) | (with_reducible refine Below.alloc ?_ ?_ _) | (with_reducible refine Below.setCell ?_ ?_ _) | (with_reducible refine Below.drew ?_) | (with_reducible refine below_setRow ?_ ?_ _) | (refine Below.trans ?_ (Below.mono (by assumption) ?_)))); all_goals (first | omega | (simp; done) | (simp; omega)))⟩
        · have gS2 : 0 < m := by simp at gS; omega
          have HB := Lib.hid (show false = R by rw [← HT.out]; simp only [gF, gK, g1, gS, Bool.and_false, Bool.false_and, Bool.true_and, Bool.and_true, Bool.not_true, Bool.not_false, Bool.or_true, Bool.true_or, Bool.or_false, Bool.false_or])
          clear HT
          go_wp2_with (first | ((with_reducible show wpList _ _ _ (⟨_, Op.load 66 _, _, _, _, _⟩ :: _) _ _); first | (refine wpList_load_mid rfl 66 _ rfl w.heap.size 0 rfl (Dc.cl d (.slice a n cap) (.slice sa m scap)) _ (range_of_cells (by assumption)) Try.underlying66 rfl size_Dec ?_) | (refine wpList_load_want 66 _ rfl rfl w.heap.size 0 rfl (Dc.cl d (.slice a n cap) (.slice sa m scap)) _ (range_of_cells (by assumption)) Try.underlying66 rfl size_Dec ?_)))
          go_ret
          exact ⟨ret_bool HB.out, by ((repeat (first | (with_reducible exact Below.refl _ _) | (with_reducible assumption) | (with_reducible refine Below.alloc ?_ ?_ _) | (with_reducible refine Below.setCell ?_ ?_ _) | (with_reducible refine Below.drew ?_) | (with_reducible refine below_setRow ?_ ?_ _) | (refine Below.trans ?_ (Below.mono (by assumption) ?_)))); all_goals (first | omega | (simp; done) | (simp; omega)))⟩
  · skip
    cases g1 : sameEv ⟨d.end_.kind, d.end_.field, d.end_.bits, d.end_.len, d.end_.text, d.end_.code, d.end_.at_⟩ ⟨0, 0, 0, 0, ⟨#[]⟩, 0, 0⟩
    · skip
      have HB := Lib.hid (show false = R by rw [← HT.out]; simp only [gF, g1, Bool.and_false, Bool.false_and, Bool.true_and, Bool.and_true, Bool.not_true, Bool.not_false, Bool.or_true, Bool.true_or, Bool.or_false, Bool.false_or])
      clear HT
      go_wp2_with (first | ((with_reducible show wpList _ _ _ (⟨_, Op.load 66 _, _, _, _, _⟩ :: _) _ _); first | (refine wpList_load_mid rfl 66 _ rfl w.heap.size 0 rfl (Dc.cl d (.slice a n cap) (.slice sa m scap)) _ (range_of_cells (by assumption)) Try.underlying66 rfl size_Dec ?_) | (refine wpList_load_want 66 _ rfl rfl w.heap.size 0 rfl (Dc.cl d (.slice a n cap) (.slice sa m scap)) _ (range_of_cells (by assumption)) Try.underlying66 rfl size_Dec ?_)))
      go_ret
      exact ⟨ret_bool HB.out, by ((repeat (first | (with_reducible exact Below.refl _ _) | (with_reducible assumption) | (with_reducible refine Below.alloc ?_ ?_ _) | (with_reducible refine Below.setCell ?_ ?_ _) | (with_reducible refine Below.drew ?_) | (with_reducible refine below_setRow ?_ ?_ _) | (refine Below.trans ?_ (Below.mono (by assumption) ?_)))); all_goals (first | omega | (simp; done) | (simp; omega)))⟩
    · skip
      cases gS : decide ((0 : Int) < m)
      · have gS2 : ¬ 0 < m := by simp at gS; omega
        go_wp2_with (first | ((with_reducible show wpList _ _ _ (⟨_, Op.load 66 _, _, _, _, _⟩ :: _) _ _); first | (refine wpList_load_mid rfl 66 _ rfl w.heap.size 0 rfl (Dc.cl d (.slice a n cap) (.slice sa m scap)) _ (range_of_cells (by assumption)) Try.underlying66 rfl size_Dec ?_) | (refine wpList_load_want 66 _ rfl rfl w.heap.size 0 rfl (Dc.cl d (.slice a n cap) (.slice sa m scap)) _ (range_of_cells (by assumption)) Try.underlying66 rfl size_Dec ?_)))
        refine (implModeOk_any d a cap n xs sa scap m ls _ (HSs.out.keep (by ((repeat (first | (with_reducible exact Below.refl _ _) | (with_reducible assumption) | (with_reducible refine Below.alloc ?_ ?_ _) | (with_reducible refine Below.setCell ?_ ?_ _) | (with_reducible refine Below.drew ?_) | (with_reducible refine below_setRow ?_ ?_ _) | (refine Below.trans ?_ (Below.mono (by assumption) ?_)))); all_goals (first | omega | (simp; done) | (simp; omega))))) (Sl.keep HSl.out (by ((repeat (first | (with_reducible exact Below.refl _ _) | (with_reducible assumption) | (with_reducible refine Below.alloc ?_ ?_ _) | (with_reducible refine Below.setCell ?_ ?_ _) | (with_reducible refine Below.drew ?_) | (with_reducible refine below_setRow ?_ ?_ _) | (refine Below.trans ?_ (Below.mono (by assumption) ?_)))); all_goals (first | omega | (simp; done) | (simp; omega))))) HX.out HL.out hn hm hm' h2 h6).mono ?_
        rintro r w20 ⟨rfl, hb20⟩
        have hz20 := hb20.size
        try simp only [World.size_alloc, World.size_setCell, World.size_drew] at hz20
        have hb20b : Below w5.heap.size w5 w20 := by ((repeat (first | (with_reducible exact Below.refl _ _) | (with_reducible assumption) | (with_reducible refine Below.alloc ?_ ?_ _) | (with_reducible refine Below.setCell ?_ ?_ _) | (with_reducible refine Below.drew ?_) | (with_reducible refine below_setRow ?_ ?_ _) | (refine Below.trans ?_ (Below.mono (by assumption) ?_)))); all_goals (first | omega | (simp; done) | (simp; omega)))
        have kA_ := box_next hb20b hBA kA; clear kA
        have kA := kA_; clear kA_
        have hBA_ := Nat.lt_of_lt_of_le hBA hb20b.size; clear hBA; have hBA := hBA_; clear hBA_
        clear hb20; have hb20 := hb20b; clear hb20b
        cases gM : (wantOk d ls && kindOk d)
        · skip
          have HB := Lib.hid (show false = R by rw [← HT.out]; simp only [gF, g1, gS, gM, Bool.and_false, Bool.false_and, Bool.true_and, Bool.and_true, Bool.not_true, Bool.not_false, Bool.or_true, Bool.true_or, Bool.or_false, Bool.false_or])
          clear HT
          go_wp2_with (first | ((with_reducible show wpList _ _ _ (⟨_, Op.load 66 _, _, _, _, _⟩ :: _) _ _); first | (refine wpList_load_mid rfl 66 _ rfl w.heap.size 0 rfl (Dc.cl d (.slice a n cap) (.slice sa m scap)) _ (range_of_cells (by assumption)) Try.underlying66 rfl size_Dec ?_) | (refine wpList_load_want 66 _ rfl rfl w.heap.size 0 rfl (Dc.cl d (.slice a n cap) (.slice sa m scap)) _ (range_of_cells (by assumption)) Try.underlying66 rfl size_Dec ?_)))
          go_ret
          exact ⟨ret_bool HB.out, by ((repeat (first | (with_reducible exact Below.refl _ _) | (with_reducible assumption) | (with_reducible refine Below.alloc ?_ ?_ _) | (with_reducible refine Below.setCell ?_ ?_ _) | (with_reducible refine Below.drew ?_) | (with_reducible refine below_setRow ?_ ?_ _) | (refine Below.trans ?_ (Below.mono (by assumption) ?_)))); all_goals (first | omega | (simp; done) | (simp; omega)))⟩
        · skip
          have hw5 := kind_width gM
          go_wp2_with (first | ((with_reducible show wpList _ _ _ (⟨_, Op.load 66 _, _, _, _, _⟩ :: _) _ _); first | (refine wpList_load_mid rfl 66 _ rfl w.heap.size 0 rfl (Dc.cl d (.slice a n cap) (.slice sa m scap)) _ (range_of_cells (by assumption)) Try.underlying66 rfl size_Dec ?_) | (refine wpList_load_want 66 _ rfl rfl w.heap.size 0 rfl (Dc.cl d (.slice a n cap) (.slice sa m scap)) _ (range_of_cells (by assumption)) Try.underlying66 rfl size_Dec ?_)))
          refine (implScanD_any d a cap n xs sa scap m ls _ (HSs.out.keep (by ((repeat (first | (with_reducible exact Below.refl _ _) | (with_reducible assumption) | (with_reducible refine Below.alloc ?_ ?_ _) | (with_reducible refine Below.setCell ?_ ?_ _) | (with_reducible refine Below.drew ?_) | (with_reducible refine below_setRow ?_ ?_ _) | (refine Below.trans ?_ (Below.mono (by assumption) ?_)))); all_goals (first | omega | (simp; done) | (simp; omega))))) (Sl.keep HSl.out (by ((repeat (first | (with_reducible exact Below.refl _ _) | (with_reducible assumption) | (with_reducible refine Below.alloc ?_ ?_ _) | (with_reducible refine Below.setCell ?_ ?_ _) | (with_reducible refine Below.drew ?_) | (with_reducible refine below_setRow ?_ ?_ _) | (refine Below.trans ?_ (Below.mono (by assumption) ?_)))); all_goals (first | omega | (simp; done) | (simp; omega))))) HX.out HL.out hn hm hm' hw5).mono ?_
          rintro r w21 ⟨rfl, hb21⟩
          have hz21 := hb21.size
          try simp only [World.size_alloc, World.size_setCell, World.size_drew] at hz21
          have hb21b : Below w20.heap.size w20 w21 := by ((repeat (first | (with_reducible exact Below.refl _ _) | (with_reducible assumption) | (with_reducible refine Below.alloc ?_ ?_ _) | (with_reducible refine Below.setCell ?_ ?_ _) | (with_reducible refine Below.drew ?_) | (with_reducible refine below_setRow ?_ ?_ _) | (refine Below.trans ?_ (Below.mono (by assumption) ?_)))); all_goals (first | omega | (simp; done) | (simp; omega)))
          have kA_ := box_next hb21b hBA kA; clear kA
          have kA := kA_; clear kA_
          have hBA_ := Nat.lt_of_lt_of_le hBA hb21b.size; clear hBA; have hBA := hBA_; clear hBA_
          clear hb21; have hb21 := hb21b; clear hb21b
          have HB := Lib.hid (show scanD d ls = R by rw [← HT.out]; simp only [gF, g1, gS, gM, Bool.and_false, Bool.false_and, Bool.true_and, Bool.and_true, Bool.not_true, Bool.not_false, Bool.or_true, Bool.true_or, Bool.or_false, Bool.false_or])
          rw [HB.out]
          go_wp2
          go_ret
          exact ⟨rfl, by ((repeat (first | (with_reducible exact Below.refl _ _) | (with_reducible assumption) | (with_reducible refine Below.alloc ?_ ?_ _) | (with_reducible refine Below.setCell ?_ ?_ _) | (with_reducible refine Below.drew ?_) | (with_reducible refine below_setRow ?_ ?_ _) | (refine Below.trans ?_ (Below.mono (by assumption) ?_)))); all_goals (first | omega | (simp; done) | (simp; omega)))⟩
      · have gS2 : 0 < m := by simp at gS; omega
        have HB := Lib.hid (show false = R by rw [← HT.out]; simp only [gF, g1, gS, Bool.and_false, Bool.false_and, Bool.true_and, Bool.and_true, Bool.not_true, Bool.not_false, Bool.or_true, Bool.true_or, Bool.or_false, Bool.false_or])
        clear HT
        go_wp2_with (first | ((with_reducible show wpList _ _ _ (⟨_, Op.load 66 _, _, _, _, _⟩ :: _) _ _); first | (refine wpList_load_mid rfl 66 _ rfl w.heap.size 0 rfl (Dc.cl d (.slice a n cap) (.slice sa m scap)) _ (range_of_cells (by assumption)) Try.underlying66 rfl size_Dec ?_) | (refine wpList_load_want 66 _ rfl rfl w.heap.size 0 rfl (Dc.cl d (.slice a n cap) (.slice sa m scap)) _ (range_of_cells (by assumption)) Try.underlying66 rfl size_Dec ?_)))
        go_ret
        exact ⟨ret_bool HB.out, by ((repeat (first | (with_reducible exact Below.refl _ _) | (with_reducible assumption) | (with_reducible refine Below.alloc ?_ ?_ _) | (with_reducible refine Below.setCell ?_ ?_ _) | (with_reducible refine Below.drew ?_) | (with_reducible refine below_setRow ?_ ?_ _) | (refine Below.trans ?_ (Below.mono (by assumption) ?_)))); all_goals (first | omega | (simp; done) | (simp; omega)))⟩
set_option maxRecDepth 100000 in
set_option maxHeartbeats 8000000 in
theorem implDecOk_k9 (d : Dc) (a : Option Addr) (cap n : Nat) (xs : List Shp) (sa : Option Addr) (scap m : Nat) (ls : List Lvl) (w : World) (h : Shs w a xs) (h' : Lvls w sa ls) (hx : xs.length = n) (hl : ls.length = m) (hn : n ≤ 1048576) (hm : fldSum xs ≤ 1048576) (hm' : m ≤ 1048576) (h1 : (planOk d.p xs && (decide ((m : Int) ≤ d.p.deep) && ls.all (lvlOk n))) = true) (h2 : inB d.mode 1 9 = true) (h3 : inB d.at_ 0 1000000000 = true) (h4 : inB d.start 0 d.at_ = true) (h5 : utfOk d.utf = true) (h6 : wireOk d.wire = true) (hM : d.mode = 9) (R : Bool) (hT : tailI d xs ls m = R) :
    Calls Try.prog 24 #[d.val (.slice a n cap) (.slice sa m scap)] w fun r w' => r = .returned (.bool R) ∧ Below w.heap.size w w' := by
  have HL := Lib.hid hl; clear hl
  have HX := Lib.hid hx; clear hx
  have HSs := Lib.hid h; clear h
  have HSl := Lib.hid h'; clear h'
  have e1 : (d.mode == 1) = false := by simp [hM]
  have b1 : (d.mode != 1) = true := by simp [hM]
  have e9 : (d.mode == 9) = true := by simp [hM]
  have b9 : (d.mode != 9) = false := by simp [hM]
  have hE0 : endOk d = (eventOk d.end_ && terminal d.end_) := by simp only [endOk, hM]; try rfl
  have hS0 : stack2 d m ls = true := by simp only [stack2, hM]; try rfl
  have hF0 : fieldIn d.field xs = (sameF ⟨d.field.number, d.field.kind, d.field.rep, d.field.packed, d.field.msg⟩ ⟨0, 0, false, false, 0⟩ || known d.field xs) := rfl
  simp only [tailI] at hT
  rw [hE0, hS0, hF0] at hT
  have HT := Lib.hid hT; clear hT hE0 hS0 hF0 hM
  have hne1 := run_neq_ev
  have hne2 := run_neq_fld
  go_enter Try.func24, Try.ntmps24
  go_wp2_with (first | ((with_reducible show wpList _ _ _ (⟨_, Op.load 66 _, _, _, _, _⟩ :: _) _ _); first | (refine wpList_load_mid rfl 66 _ rfl w.heap.size 0 rfl (Dc.cl d (.slice a n cap) (.slice sa m scap)) _ (range_of_box (t := 66) (hset_new rfl)) Try.underlying66 rfl size_Dec ?_) | (refine wpList_load_want 66 _ rfl rfl w.heap.size 0 rfl (Dc.cl d (.slice a n cap) (.slice sa m scap)) _ (range_of_box (t := 66) (hset_new rfl)) Try.underlying66 rfl size_Dec ?_)))
  refine (levelsOk_any d a cap n xs sa scap m ls _ (HSs.out.keep (by ((repeat (first | (with_reducible exact Below.refl _ _) | (with_reducible assumption) | (with_reducible refine Below.alloc ?_ ?_ _) | (with_reducible refine Below.setCell ?_ ?_ _) | (with_reducible refine Below.drew ?_) | (with_reducible refine below_setRow ?_ ?_ _) | (refine Below.trans ?_ (Below.mono (by assumption) ?_)))); all_goals (first | omega | (simp; done) | (simp; omega))))) (Sl.keep HSl.out (by ((repeat (first | (with_reducible exact Below.refl _ _) | (with_reducible assumption) | (with_reducible refine Below.alloc ?_ ?_ _) | (with_reducible refine Below.setCell ?_ ?_ _) | (with_reducible refine Below.drew ?_) | (with_reducible refine below_setRow ?_ ?_ _) | (refine Below.trans ?_ (Below.mono (by assumption) ?_)))); all_goals (first | omega | (simp; done) | (simp; omega))))) HX.out HL.out hn hm hm').mono ?_
  rintro r w1 ⟨rfl, hb1⟩
  have hz1 := hb1.size
  try simp only [World.size_alloc, World.size_setCell, World.size_drew] at hz1
  have hb1b : Below w.heap.size w w1 := by ((repeat (first | (with_reducible exact Below.refl _ _) | (with_reducible assumption) | (with_reducible refine Below.alloc ?_ ?_ _) | (with_reducible refine Below.setCell ?_ ?_ _) | (with_reducible refine Below.drew ?_) | (with_reducible refine below_setRow ?_ ?_ _) | (refine Below.trans ?_ (Below.mono (by assumption) ?_)))); all_goals (first | omega | (simp; done) | (simp; omega)))
  have kA := box_new0 hb1
  have hBA := box_lt0 hb1
  try simp only [World.size_alloc, World.size_setCell, World.size_drew] at kA
  try simp only [World.size_alloc, World.size_setCell, World.size_drew] at hBA
  clear hb1; have hb1 := hb1b; clear hb1b
  rw [h1]
  go_wp2_with (first | ((with_reducible show wpList _ _ _ (⟨_, Op.load 66 _, _, _, _, _⟩ :: _) _ _); first | (refine wpList_load_mid rfl 66 _ rfl w.heap.size 0 rfl (Dc.cl d (.slice a n cap) (.slice sa m scap)) _ (range_of_cells (by assumption)) Try.underlying66 rfl size_Dec ?_) | (refine wpList_load_want 66 _ rfl rfl w.heap.size 0 rfl (Dc.cl d (.slice a n cap) (.slice sa m scap)) _ (range_of_cells (by assumption)) Try.underlying66 rfl size_Dec ?_)))
  refine (within_any _ _ _ _).mono ?_
  rintro r wx2 ⟨rfl, rfl⟩
  rw [h2]
  go_wp2_with (first | ((with_reducible show wpList _ _ _ (⟨_, Op.load 66 _, _, _, _, _⟩ :: _) _ _); first | (refine wpList_load_mid rfl 66 _ rfl w.heap.size 0 rfl (Dc.cl d (.slice a n cap) (.slice sa m scap)) _ (range_of_cells (by assumption)) Try.underlying66 rfl size_Dec ?_) | (refine wpList_load_want 66 _ rfl rfl w.heap.size 0 rfl (Dc.cl d (.slice a n cap) (.slice sa m scap)) _ (range_of_cells (by assumption)) Try.underlying66 rfl size_Dec ?_)))
  refine (within_any _ _ _ _).mono ?_
  rintro r wx3 ⟨rfl, rfl⟩
  rw [h3]
  go_wp2_with (first | ((with_reducible show wpList _ _ _ (⟨_, Op.load 66 _, _, _, _, _⟩ :: _) _ _); first | (refine wpList_load_mid rfl 66 _ rfl w.heap.size 0 rfl (Dc.cl d (.slice a n cap) (.slice sa m scap)) _ (range_of_cells (by assumption)) Try.underlying66 rfl size_Dec ?_) | (refine wpList_load_want 66 _ rfl rfl w.heap.size 0 rfl (Dc.cl d (.slice a n cap) (.slice sa m scap)) _ (range_of_cells (by assumption)) Try.underlying66 rfl size_Dec ?_)))
  refine (within_any _ _ _ _).mono ?_
  rintro r wx4 ⟨rfl, rfl⟩
  rw [h4]
  go_wp2_with (first | ((with_reducible show wpList _ _ _ (⟨_, Op.load 66 _, _, _, _, _⟩ :: _) _ _); first | (refine wpList_load_mid rfl 66 _ rfl w.heap.size 0 rfl (Dc.cl d (.slice a n cap) (.slice sa m scap)) _ (range_of_cells (by assumption)) Try.underlying66 rfl size_Dec ?_) | (refine wpList_load_want 66 _ rfl rfl w.heap.size 0 rfl (Dc.cl d (.slice a n cap) (.slice sa m scap)) _ (range_of_cells (by assumption)) Try.underlying66 rfl size_Dec ?_)))
  refine (implUtfOk_any d.utf _).mono ?_
  rintro r w5 ⟨rfl, hb5⟩
  have hz5 := hb5.size
  try simp only [World.size_alloc, World.size_setCell, World.size_drew] at hz5
  have hb5b : Below w1.heap.size w1 w5 := by ((repeat (first | (with_reducible exact Below.refl _ _) | (with_reducible assumption) | (with_reducible refine Below.alloc ?_ ?_ _) | (with_reducible refine Below.setCell ?_ ?_ _) | (with_reducible refine Below.drew ?_) | (with_reducible refine below_setRow ?_ ?_ _) | (refine Below.trans ?_ (Below.mono (by assumption) ?_)))); all_goals (first | omega | (simp; done) | (simp; omega)))
  have kA_ := box_next hb5b hBA kA; clear kA
  have kA := kA_; clear kA_
  have hBA_ := Nat.lt_of_lt_of_le hBA hb5b.size; clear hBA; have hBA := hBA_; clear hBA_
  clear hb5; have hb5 := hb5b; clear hb5b
  rw [h5]
  go_wp2_with (first | ((with_reducible show wpList _ _ _ (⟨_, Op.load 66 _, _, _, _, _⟩ :: _) _ _); first | (refine wpList_load_mid rfl 66 _ rfl w.heap.size 0 rfl (Dc.cl d (.slice a n cap) (.slice sa m scap)) _ (range_of_cells (by assumption)) Try.underlying66 rfl size_Dec ?_) | (refine wpList_load_want 66 _ rfl rfl w.heap.size 0 rfl (Dc.cl d (.slice a n cap) (.slice sa m scap)) _ (range_of_cells (by assumption)) Try.underlying66 rfl size_Dec ?_)))
  refine (implWireOk_any _ _).mono ?_
  rintro r wx6 ⟨rfl, rfl⟩
  rw [h6]
  cases gF : sameF ⟨d.field.number, d.field.kind, d.field.rep, d.field.packed, d.field.msg⟩ ⟨0, 0, false, false, 0⟩
  · skip
    go_wp2_with (first | ((with_reducible show wpList _ _ _ (⟨_, Op.load 66 _, _, _, _, _⟩ :: _) _ _); first | (refine wpList_load_mid rfl 66 _ rfl w.heap.size 0 rfl (Dc.cl d (.slice a n cap) (.slice sa m scap)) _ (range_of_cells (by assumption)) Try.underlying66 rfl size_Dec ?_) | (refine wpList_load_want 66 _ rfl rfl w.heap.size 0 rfl (Dc.cl d (.slice a n cap) (.slice sa m scap)) _ (range_of_cells (by assumption)) Try.underlying66 rfl size_Dec ?_)))
    refine (knownField_any d.p a cap n xs d.field _ (HSs.out.keep (by ((repeat (first | (with_reducible exact Below.refl _ _) | (with_reducible assumption) | (with_reducible refine Below.alloc ?_ ?_ _) | (with_reducible refine Below.setCell ?_ ?_ _) | (with_reducible refine Below.drew ?_) | (with_reducible refine below_setRow ?_ ?_ _) | (refine Below.trans ?_ (Below.mono (by assumption) ?_)))); all_goals (first | omega | (simp; done) | (simp; omega))))) HX.out hn hm).mono ?_
    rintro r w8 ⟨rfl, hb8⟩
    have hz8 := hb8.size
    try simp only [World.size_alloc, World.size_setCell, World.size_drew] at hz8
    have hb8b : Below w5.heap.size w5 w8 := by ((repeat (first | (with_reducible exact Below.refl _ _) | (with_reducible assumption) | (with_reducible refine Below.alloc ?_ ?_ _) | (with_reducible refine Below.setCell ?_ ?_ _) | (with_reducible refine Below.drew ?_) | (with_reducible refine below_setRow ?_ ?_ _) | (refine Below.trans ?_ (Below.mono (by assumption) ?_)))); all_goals (first | omega | (simp; done) | (simp; omega)))
    have kA_ := box_next hb8b hBA kA; clear kA
    have kA := kA_; clear kA_
    have hBA_ := Nat.lt_of_lt_of_le hBA hb8b.size; clear hBA; have hBA := hBA_; clear hBA_
    clear hb8; have hb8 := hb8b; clear hb8b
    cases gK : known d.field xs
    · skip
      have HB := Lib.hid (show false = R by rw [← HT.out]; simp only [gF, gK, Bool.and_false, Bool.false_and, Bool.true_and, Bool.and_true, Bool.not_true, Bool.not_false, Bool.or_true, Bool.true_or, Bool.or_false, Bool.false_or])
      clear HT
      go_wp2_with (first | ((with_reducible show wpList _ _ _ (⟨_, Op.load 66 _, _, _, _, _⟩ :: _) _ _); first | (refine wpList_load_mid rfl 66 _ rfl w.heap.size 0 rfl (Dc.cl d (.slice a n cap) (.slice sa m scap)) _ (range_of_cells (by assumption)) Try.underlying66 rfl size_Dec ?_) | (refine wpList_load_want 66 _ rfl rfl w.heap.size 0 rfl (Dc.cl d (.slice a n cap) (.slice sa m scap)) _ (range_of_cells (by assumption)) Try.underlying66 rfl size_Dec ?_)))
      go_ret
      exact ⟨ret_bool HB.out, by ((repeat (first | (with_reducible exact Below.refl _ _) | (with_reducible assumption) | (with_reducible refine Below.alloc ?_ ?_ _) | (with_reducible refine Below.setCell ?_ ?_ _) | (with_reducible refine Below.drew ?_) | (with_reducible refine below_setRow ?_ ?_ _) | (refine Below.trans ?_ (Below.mono (by assumption) ?_)))); all_goals (first | omega | (simp; done) | (simp; omega)))⟩
    · skip
      go_wp2_with (first | ((with_reducible show wpList _ _ _ (⟨_, Op.load 66 _, _, _, _, _⟩ :: _) _ _); first | (refine wpList_load_mid rfl 66 _ rfl w.heap.size 0 rfl (Dc.cl d (.slice a n cap) (.slice sa m scap)) _ (range_of_cells (by assumption)) Try.underlying66 rfl size_Dec ?_) | (refine wpList_load_want 66 _ rfl rfl w.heap.size 0 rfl (Dc.cl d (.slice a n cap) (.slice sa m scap)) _ (range_of_cells (by assumption)) Try.underlying66 rfl size_Dec ?_)))
      refine (implEventOk_any d.end_ _).mono ?_
      rintro r w10 ⟨rfl, hb10⟩
      have hz10 := hb10.size
      try simp only [World.size_alloc, World.size_setCell, World.size_drew] at hz10
      have hb10b : Below w8.heap.size w8 w10 := by ((repeat (first | (with_reducible exact Below.refl _ _) | (with_reducible assumption) | (with_reducible refine Below.alloc ?_ ?_ _) | (with_reducible refine Below.setCell ?_ ?_ _) | (with_reducible refine Below.drew ?_) | (with_reducible refine below_setRow ?_ ?_ _) | (refine Below.trans ?_ (Below.mono (by assumption) ?_)))); all_goals (first | omega | (simp; done) | (simp; omega)))
      have kA_ := box_next hb10b hBA kA; clear kA
      have kA := kA_; clear kA_
      have hBA_ := Nat.lt_of_lt_of_le hBA hb10b.size; clear hBA; have hBA := hBA_; clear hBA_
      clear hb10; have hb10 := hb10b; clear hb10b
      cases g1 : eventOk d.end_
      · skip
        have HB := Lib.hid (show false = R by rw [← HT.out]; simp only [gF, gK, g1, Bool.and_false, Bool.false_and, Bool.true_and, Bool.and_true, Bool.not_true, Bool.not_false, Bool.or_true, Bool.true_or, Bool.or_false, Bool.false_or])
        clear HT
        go_wp2_with (first | ((with_reducible show wpList _ _ _ (⟨_, Op.load 66 _, _, _, _, _⟩ :: _) _ _); first | (refine wpList_load_mid rfl 66 _ rfl w.heap.size 0 rfl (Dc.cl d (.slice a n cap) (.slice sa m scap)) _ (range_of_cells (by assumption)) Try.underlying66 rfl size_Dec ?_) | (refine wpList_load_want 66 _ rfl rfl w.heap.size 0 rfl (Dc.cl d (.slice a n cap) (.slice sa m scap)) _ (range_of_cells (by assumption)) Try.underlying66 rfl size_Dec ?_)))
        go_ret
        exact ⟨ret_bool HB.out, by ((repeat (first | (with_reducible exact Below.refl _ _) | (with_reducible assumption) | (with_reducible refine Below.alloc ?_ ?_ _) | (with_reducible refine Below.setCell ?_ ?_ _) | (with_reducible refine Below.drew ?_) | (with_reducible refine below_setRow ?_ ?_ _) | (refine Below.trans ?_ (Below.mono (by assumption) ?_)))); all_goals (first | omega | (simp; done) | (simp; omega)))⟩
      · skip
        go_wp2_with (first | ((with_reducible show wpList _ _ _ (⟨_, Op.load 66 _, _, _, _, _⟩ :: _) _ _); first | (refine wpList_load_mid rfl 66 _ rfl w.heap.size 0 rfl (Dc.cl d (.slice a n cap) (.slice sa m scap)) _ (range_of_cells (by assumption)) Try.underlying66 rfl size_Dec ?_) | (refine wpList_load_want 66 _ rfl rfl w.heap.size 0 rfl (Dc.cl d (.slice a n cap) (.slice sa m scap)) _ (range_of_cells (by assumption)) Try.underlying66 rfl size_Dec ?_)))
        refine (implTerminal_any d.end_ _).mono ?_
        rintro r w11 ⟨rfl, hb11⟩
        have hz11 := hb11.size
        try simp only [World.size_alloc, World.size_setCell, World.size_drew] at hz11
        have hb11b : Below w10.heap.size w10 w11 := by ((repeat (first | (with_reducible exact Below.refl _ _) | (with_reducible assumption) | (with_reducible refine Below.alloc ?_ ?_ _) | (with_reducible refine Below.setCell ?_ ?_ _) | (with_reducible refine Below.drew ?_) | (with_reducible refine below_setRow ?_ ?_ _) | (refine Below.trans ?_ (Below.mono (by assumption) ?_)))); all_goals (first | omega | (simp; done) | (simp; omega)))
        have kA_ := box_next hb11b hBA kA; clear kA
        have kA := kA_; clear kA_
        have hBA_ := Nat.lt_of_lt_of_le hBA hb11b.size; clear hBA; have hBA := hBA_; clear hBA_
        clear hb11; have hb11 := hb11b; clear hb11b
        cases g2 : terminal d.end_
        · skip
          have HB := Lib.hid (show false = R by rw [← HT.out]; simp only [gF, gK, g1, g2, Bool.and_false, Bool.false_and, Bool.true_and, Bool.and_true, Bool.not_true, Bool.not_false, Bool.or_true, Bool.true_or, Bool.or_false, Bool.false_or])
          clear HT
          go_wp2_with (first | ((with_reducible show wpList _ _ _ (⟨_, Op.load 66 _, _, _, _, _⟩ :: _) _ _); first | (refine wpList_load_mid rfl 66 _ rfl w.heap.size 0 rfl (Dc.cl d (.slice a n cap) (.slice sa m scap)) _ (range_of_cells (by assumption)) Try.underlying66 rfl size_Dec ?_) | (refine wpList_load_want 66 _ rfl rfl w.heap.size 0 rfl (Dc.cl d (.slice a n cap) (.slice sa m scap)) _ (range_of_cells (by assumption)) Try.underlying66 rfl size_Dec ?_)))
          go_ret
          exact ⟨ret_bool HB.out, by ((repeat (first | (with_reducible exact Below.refl _ _) | (with_reducible assumption) | (with_reducible refine Below.alloc ?_ ?_ _) | (with_reducible refine Below.setCell ?_ ?_ _) | (with_reducible refine Below.drew ?_) | (with_reducible refine below_setRow ?_ ?_ _) | (refine Below.trans ?_ (Below.mono (by assumption) ?_)))); all_goals (first | omega | (simp; done) | (simp; omega)))⟩
        · skip
          go_wp2_with (first | ((with_reducible show wpList _ _ _ (⟨_, Op.load 66 _, _, _, _, _⟩ :: _) _ _); first | (refine wpList_load_mid rfl 66 _ rfl w.heap.size 0 rfl (Dc.cl d (.slice a n cap) (.slice sa m scap)) _ (range_of_cells (by assumption)) Try.underlying66 rfl size_Dec ?_) | (refine wpList_load_want 66 _ rfl rfl w.heap.size 0 rfl (Dc.cl d (.slice a n cap) (.slice sa m scap)) _ (range_of_cells (by assumption)) Try.underlying66 rfl size_Dec ?_)))
          refine (implModeOk_any d a cap n xs sa scap m ls _ (HSs.out.keep (by ((repeat (first | (with_reducible exact Below.refl _ _) | (with_reducible assumption) | (with_reducible refine Below.alloc ?_ ?_ _) | (with_reducible refine Below.setCell ?_ ?_ _) | (with_reducible refine Below.drew ?_) | (with_reducible refine below_setRow ?_ ?_ _) | (refine Below.trans ?_ (Below.mono (by assumption) ?_)))); all_goals (first | omega | (simp; done) | (simp; omega))))) (Sl.keep HSl.out (by ((repeat (first | (with_reducible exact Below.refl _ _) | (with_reducible assumption) | (with_reducible refine Below.alloc ?_ ?_ _) | (with_reducible refine Below.setCell ?_ ?_ _) | (with_reducible refine Below.drew ?_) | (with_reducible refine below_setRow ?_ ?_ _) | (refine Below.trans ?_ (Below.mono (by assumption) ?_)))); all_goals (first | omega | (simp; done) | (simp; omega))))) HX.out HL.out hn hm hm' h2 h6).mono ?_
          rintro r w20 ⟨rfl, hb20⟩
          have hz20 := hb20.size
          try simp only [World.size_alloc, World.size_setCell, World.size_drew] at hz20
          have hb20b : Below w11.heap.size w11 w20 := by ((repeat (first | (with_reducible exact Below.refl _ _) | (with_reducible assumption) | (with_reducible refine Below.alloc ?_ ?_ _) | (with_reducible refine Below.setCell ?_ ?_ _) | (with_reducible refine Below.drew ?_) | (with_reducible refine below_setRow ?_ ?_ _) | (refine Below.trans ?_ (Below.mono (by assumption) ?_)))); all_goals (first | omega | (simp; done) | (simp; omega)))
          have kA_ := box_next hb20b hBA kA; clear kA
          have kA := kA_; clear kA_
          have hBA_ := Nat.lt_of_lt_of_le hBA hb20b.size; clear hBA; have hBA := hBA_; clear hBA_
          clear hb20; have hb20 := hb20b; clear hb20b
          cases gM : (wantOk d ls && kindOk d)
          · skip
            have HB := Lib.hid (show false = R by rw [← HT.out]; simp only [gF, gK, g1, g2, gM, Bool.and_false, Bool.false_and, Bool.true_and, Bool.and_true, Bool.not_true, Bool.not_false, Bool.or_true, Bool.true_or, Bool.or_false, Bool.false_or])
            clear HT
            go_wp2_with (first | ((with_reducible show wpList _ _ _ (⟨_, Op.load 66 _, _, _, _, _⟩ :: _) _ _); first | (refine wpList_load_mid rfl 66 _ rfl w.heap.size 0 rfl (Dc.cl d (.slice a n cap) (.slice sa m scap)) _ (range_of_cells (by assumption)) Try.underlying66 rfl size_Dec ?_) | (refine wpList_load_want 66 _ rfl rfl w.heap.size 0 rfl (Dc.cl d (.slice a n cap) (.slice sa m scap)) _ (range_of_cells (by assumption)) Try.underlying66 rfl size_Dec ?_)))
            go_ret
            exact ⟨ret_bool HB.out, by ((repeat (first | (with_reducible exact Below.refl _ _) | (with_reducible assumption) | (with_reducible refine Below.alloc ?_ ?_ _) | (with_reducible refine Below.setCell ?_ ?_ _) | (with_reducible refine Below.drew ?_) | (with_reducible refine below_setRow ?_ ?_ _) | (refine Below.trans ?_ (Below.mono (by assumption) ?_)))); all_goals (first | omega | (simp; done) | (simp; omega)))⟩
          · skip
            have hw5 := kind_width gM
            go_wp2_with (first | ((with_reducible show wpList _ _ _ (⟨_, Op.load 66 _, _, _, _, _⟩ :: _) _ _); first | (refine wpList_load_mid rfl 66 _ rfl w.heap.size 0 rfl (Dc.cl d (.slice a n cap) (.slice sa m scap)) _ (range_of_cells (by assumption)) Try.underlying66 rfl size_Dec ?_) | (refine wpList_load_want 66 _ rfl rfl w.heap.size 0 rfl (Dc.cl d (.slice a n cap) (.slice sa m scap)) _ (range_of_cells (by assumption)) Try.underlying66 rfl size_Dec ?_)))
            refine (implScanD_any d a cap n xs sa scap m ls _ (HSs.out.keep (by ((repeat (first | (with_reducible exact Below.refl _ _) | (with_reducible assumption) | (with_reducible refine Below.alloc ?_ ?_ _) | (with_reducible refine Below.setCell ?_ ?_ _) | (with_reducible refine Below.drew ?_) | (with_reducible refine below_setRow ?_ ?_ _) | (refine Below.trans ?_ (Below.mono (by assumption) ?_)))); all_goals (first | omega | (simp; done) | (simp; omega))))) (Sl.keep HSl.out (by ((repeat (first | (with_reducible exact Below.refl _ _) | (with_reducible assumption) | (with_reducible refine Below.alloc ?_ ?_ _) | (with_reducible refine Below.setCell ?_ ?_ _) | (with_reducible refine Below.drew ?_) | (with_reducible refine below_setRow ?_ ?_ _) | (refine Below.trans ?_ (Below.mono (by assumption) ?_)))); all_goals (first | omega | (simp; done) | (simp; omega))))) HX.out HL.out hn hm hm' hw5).mono ?_
            rintro r w21 ⟨rfl, hb21⟩
            have hz21 := hb21.size
            try simp only [World.size_alloc, World.size_setCell, World.size_drew] at hz21
            have hb21b : Below w20.heap.size w20 w21 := by ((repeat (first | (with_reducible exact Below.refl _ _) | (with_reducible assumption) | (with_reducible refine Below.alloc ?_ ?_ _) | (with_reducible refine Below.setCell ?_ ?_ _) | (with_reducible refine Below.drew ?_) | (with_reducible refine below_setRow ?_ ?_ _) | (refine Below.trans ?_ (Below.mono (by assumption) ?_)))); all_goals (first | omega | (simp; done) | (simp; omega)))
            have kA_ := box_next hb21b hBA kA; clear kA
            have kA := kA_; clear kA_
            have hBA_ := Nat.lt_of_lt_of_le hBA hb21b.size; clear hBA; have hBA := hBA_; clear hBA_
            clear hb21; have hb21 := hb21b; clear hb21b
            have HB := Lib.hid (show scanD d ls = R by rw [← HT.out]; simp only [gF, gK, g1, g2, gM, Bool.and_false, Bool.false_and, Bool.true_and, Bool.and_true, Bool.not_true, Bool.not_false, Bool.or_true, Bool.true_or, Bool.or_false, Bool.false_or])
            rw [HB.out]
            go_wp2
            go_ret
            exact ⟨rfl, by ((repeat (first | (with_reducible exact Below.refl _ _) | (with_reducible assumption) | (with_reducible refine Below.alloc ?_ ?_ _) | (with_reducible refine Below.setCell ?_ ?_ _) | (with_reducible refine Below.drew ?_) | (with_reducible refine below_setRow ?_ ?_ _) | (refine Below.trans ?_ (Below.mono (by assumption) ?_)))); all_goals (first | omega | (simp; done) | (simp; omega)))⟩
  · skip
    go_wp2_with (first | ((with_reducible show wpList _ _ _ (⟨_, Op.load 66 _, _, _, _, _⟩ :: _) _ _); first | (refine wpList_load_mid rfl 66 _ rfl w.heap.size 0 rfl (Dc.cl d (.slice a n cap) (.slice sa m scap)) _ (range_of_cells (by assumption)) Try.underlying66 rfl size_Dec ?_) | (refine wpList_load_want 66 _ rfl rfl w.heap.size 0 rfl (Dc.cl d (.slice a n cap) (.slice sa m scap)) _ (range_of_cells (by assumption)) Try.underlying66 rfl size_Dec ?_)))
    refine (implEventOk_any d.end_ _).mono ?_
    rintro r w10 ⟨rfl, hb10⟩
    have hz10 := hb10.size
    try simp only [World.size_alloc, World.size_setCell, World.size_drew] at hz10
    have hb10b : Below w5.heap.size w5 w10 := by ((repeat (first | (with_reducible exact Below.refl _ _) | (with_reducible assumption) | (with_reducible refine Below.alloc ?_ ?_ _) | (with_reducible refine Below.setCell ?_ ?_ _) | (with_reducible refine Below.drew ?_) | (with_reducible refine below_setRow ?_ ?_ _) | (refine Below.trans ?_ (Below.mono (by assumption) ?_)))); all_goals (first | omega | (simp; done) | (simp; omega)))
    have kA_ := box_next hb10b hBA kA; clear kA
    have kA := kA_; clear kA_
    have hBA_ := Nat.lt_of_lt_of_le hBA hb10b.size; clear hBA; have hBA := hBA_; clear hBA_
    clear hb10; have hb10 := hb10b; clear hb10b
    cases g1 : eventOk d.end_
    · skip
      have HB := Lib.hid (show false = R by rw [← HT.out]; simp only [gF, g1, Bool.and_false, Bool.false_and, Bool.true_and, Bool.and_true, Bool.not_true, Bool.not_false, Bool.or_true, Bool.true_or, Bool.or_false, Bool.false_or])
      clear HT
      go_wp2_with (first | ((with_reducible show wpList _ _ _ (⟨_, Op.load 66 _, _, _, _, _⟩ :: _) _ _); first | (refine wpList_load_mid rfl 66 _ rfl w.heap.size 0 rfl (Dc.cl d (.slice a n cap) (.slice sa m scap)) _ (range_of_cells (by assumption)) Try.underlying66 rfl size_Dec ?_) | (refine wpList_load_want 66 _ rfl rfl w.heap.size 0 rfl (Dc.cl d (.slice a n cap) (.slice sa m scap)) _ (range_of_cells (by assumption)) Try.underlying66 rfl size_Dec ?_)))
      go_ret
      exact ⟨ret_bool HB.out, by ((repeat (first | (with_reducible exact Below.refl _ _) | (with_reducible assumption) | (with_reducible refine Below.alloc ?_ ?_ _) | (with_reducible refine Below.setCell ?_ ?_ _) | (with_reducible refine Below.drew ?_) | (with_reducible refine below_setRow ?_ ?_ _) | (refine Below.trans ?_ (Below.mono (by assumption) ?_)))); all_goals (first | omega | (simp; done) | (simp; omega)))⟩
    · skip
      go_wp2_with (first | ((with_reducible show wpList _ _ _ (⟨_, Op.load 66 _, _, _, _, _⟩ :: _) _ _); first | (refine wpList_load_mid rfl 66 _ rfl w.heap.size 0 rfl (Dc.cl d (.slice a n cap) (.slice sa m scap)) _ (range_of_cells (by assumption)) Try.underlying66 rfl size_Dec ?_) | (refine wpList_load_want 66 _ rfl rfl w.heap.size 0 rfl (Dc.cl d (.slice a n cap) (.slice sa m scap)) _ (range_of_cells (by assumption)) Try.underlying66 rfl size_Dec ?_)))
      refine (implTerminal_any d.end_ _).mono ?_
      rintro r w11 ⟨rfl, hb11⟩
      have hz11 := hb11.size
      try simp only [World.size_alloc, World.size_setCell, World.size_drew] at hz11
      have hb11b : Below w10.heap.size w10 w11 := by ((repeat (first | (with_reducible exact Below.refl _ _) | (with_reducible assumption) | (with_reducible refine Below.alloc ?_ ?_ _) | (with_reducible refine Below.setCell ?_ ?_ _) | (with_reducible refine Below.drew ?_) | (with_reducible refine below_setRow ?_ ?_ _) | (refine Below.trans ?_ (Below.mono (by assumption) ?_)))); all_goals (first | omega | (simp; done) | (simp; omega)))
      have kA_ := box_next hb11b hBA kA; clear kA
      have kA := kA_; clear kA_
      have hBA_ := Nat.lt_of_lt_of_le hBA hb11b.size; clear hBA; have hBA := hBA_; clear hBA_
      clear hb11; have hb11 := hb11b; clear hb11b
      cases g2 : terminal d.end_
      · skip
        have HB := Lib.hid (show false = R by rw [← HT.out]; simp only [gF, g1, g2, Bool.and_false, Bool.false_and, Bool.true_and, Bool.and_true, Bool.not_true, Bool.not_false, Bool.or_true, Bool.true_or, Bool.or_false, Bool.false_or])
        clear HT
        go_wp2_with (first | ((with_reducible show wpList _ _ _ (⟨_, Op.load 66 _, _, _, _, _⟩ :: _) _ _); first | (refine wpList_load_mid rfl 66 _ rfl w.heap.size 0 rfl (Dc.cl d (.slice a n cap) (.slice sa m scap)) _ (range_of_cells (by assumption)) Try.underlying66 rfl size_Dec ?_) | (refine wpList_load_want 66 _ rfl rfl w.heap.size 0 rfl (Dc.cl d (.slice a n cap) (.slice sa m scap)) _ (range_of_cells (by assumption)) Try.underlying66 rfl size_Dec ?_)))
        go_ret
        exact ⟨ret_bool HB.out, by ((repeat (first | (with_reducible exact Below.refl _ _) | (with_reducible assumption) | (with_reducible refine Below.alloc ?_ ?_ _) | (with_reducible refine Below.setCell ?_ ?_ _) | (with_reducible refine Below.drew ?_) | (with_reducible refine below_setRow ?_ ?_ _) | (refine Below.trans ?_ (Below.mono (by assumption) ?_)))); all_goals (first | omega | (simp; done) | (simp; omega)))⟩
      · skip
        go_wp2_with (first | ((with_reducible show wpList _ _ _ (⟨_, Op.load 66 _, _, _, _, _⟩ :: _) _ _); first | (refine wpList_load_mid rfl 66 _ rfl w.heap.size 0 rfl (Dc.cl d (.slice a n cap) (.slice sa m scap)) _ (range_of_cells (by assumption)) Try.underlying66 rfl size_Dec ?_) | (refine wpList_load_want 66 _ rfl rfl w.heap.size 0 rfl (Dc.cl d (.slice a n cap) (.slice sa m scap)) _ (range_of_cells (by assumption)) Try.underlying66 rfl size_Dec ?_)))
        refine (implModeOk_any d a cap n xs sa scap m ls _ (HSs.out.keep (by ((repeat (first | (with_reducible exact Below.refl _ _) | (with_reducible assumption) | (with_reducible refine Below.alloc ?_ ?_ _) | (with_reducible refine Below.setCell ?_ ?_ _) | (with_reducible refine Below.drew ?_) | (with_reducible refine below_setRow ?_ ?_ _) | (refine Below.trans ?_ (Below.mono (by assumption) ?_)))); all_goals (first | omega | (simp; done) | (simp; omega))))) (Sl.keep HSl.out (by ((repeat (first | (with_reducible exact Below.refl _ _) | (with_reducible assumption) | (with_reducible refine Below.alloc ?_ ?_ _) | (with_reducible refine Below.setCell ?_ ?_ _) | (with_reducible refine Below.drew ?_) | (with_reducible refine below_setRow ?_ ?_ _) | (refine Below.trans ?_ (Below.mono (by assumption) ?_)))); all_goals (first | omega | (simp; done) | (simp; omega))))) HX.out HL.out hn hm hm' h2 h6).mono ?_
        rintro r w20 ⟨rfl, hb20⟩
        have hz20 := hb20.size
        try simp only [World.size_alloc, World.size_setCell, World.size_drew] at hz20
        have hb20b : Below w11.heap.size w11 w20 := by ((repeat (first | (with_reducible exact Below.refl _ _) | (with_reducible assumption) | (with_reducible refine Below.alloc ?_ ?_ _) | (with_reducible refine Below.setCell ?_ ?_ _) | (with_reducible refine Below.drew ?_) | (with_reducible refine below_setRow ?_ ?_ _) | (refine Below.trans ?_ (Below.mono (by assumption) ?_)))); all_goals (first | omega | (simp; done) | (simp; omega)))
        have kA_ := box_next hb20b hBA kA; clear kA
        have kA := kA_; clear kA_
        have hBA_ := Nat.lt_of_lt_of_le hBA hb20b.size; clear hBA; have hBA := hBA_; clear hBA_
        clear hb20; have hb20 := hb20b; clear hb20b
        cases gM : (wantOk d ls && kindOk d)
        · skip
          have HB := Lib.hid (show false = R by rw [← HT.out]; simp only [gF, g1, g2, gM, Bool.and_false, Bool.false_and, Bool.true_and, Bool.and_true, Bool.not_true, Bool.not_false, Bool.or_true, Bool.true_or, Bool.or_false, Bool.false_or])
          clear HT
          go_wp2_with (first | ((with_reducible show wpList _ _ _ (⟨_, Op.load 66 _, _, _, _, _⟩ :: _) _ _); first | (refine wpList_load_mid rfl 66 _ rfl w.heap.size 0 rfl (Dc.cl d (.slice a n cap) (.slice sa m scap)) _ (range_of_cells (by assumption)) Try.underlying66 rfl size_Dec ?_) | (refine wpList_load_want 66 _ rfl rfl w.heap.size 0 rfl (Dc.cl d (.slice a n cap) (.slice sa m scap)) _ (range_of_cells (by assumption)) Try.underlying66 rfl size_Dec ?_)))
          go_ret
          exact ⟨ret_bool HB.out, by ((repeat (first | (with_reducible exact Below.refl _ _) | (with_reducible assumption) | (with_reducible refine Below.alloc ?_ ?_ _) | (with_reducible refine Below.setCell ?_ ?_ _) | (with_reducible refine Below.drew ?_) | (with_reducible refine below_setRow ?_ ?_ _) | (refine Below.trans ?_ (Below.mono (by assumption) ?_)))); all_goals (first | omega | (simp; done) | (simp; omega)))⟩
        · skip
          have hw5 := kind_width gM
          go_wp2_with (first | ((with_reducible show wpList _ _ _ (⟨_, Op.load 66 _, _, _, _, _⟩ :: _) _ _); first | (refine wpList_load_mid rfl 66 _ rfl w.heap.size 0 rfl (Dc.cl d (.slice a n cap) (.slice sa m scap)) _ (range_of_cells (by assumption)) Try.underlying66 rfl size_Dec ?_) | (refine wpList_load_want 66 _ rfl rfl w.heap.size 0 rfl (Dc.cl d (.slice a n cap) (.slice sa m scap)) _ (range_of_cells (by assumption)) Try.underlying66 rfl size_Dec ?_)))
          refine (implScanD_any d a cap n xs sa scap m ls _ (HSs.out.keep (by ((repeat (first | (with_reducible exact Below.refl _ _) | (with_reducible assumption) | (with_reducible refine Below.alloc ?_ ?_ _) | (with_reducible refine Below.setCell ?_ ?_ _) | (with_reducible refine Below.drew ?_) | (with_reducible refine below_setRow ?_ ?_ _) | (refine Below.trans ?_ (Below.mono (by assumption) ?_)))); all_goals (first | omega | (simp; done) | (simp; omega))))) (Sl.keep HSl.out (by ((repeat (first | (with_reducible exact Below.refl _ _) | (with_reducible assumption) | (with_reducible refine Below.alloc ?_ ?_ _) | (with_reducible refine Below.setCell ?_ ?_ _) | (with_reducible refine Below.drew ?_) | (with_reducible refine below_setRow ?_ ?_ _) | (refine Below.trans ?_ (Below.mono (by assumption) ?_)))); all_goals (first | omega | (simp; done) | (simp; omega))))) HX.out HL.out hn hm hm' hw5).mono ?_
          rintro r w21 ⟨rfl, hb21⟩
          have hz21 := hb21.size
          try simp only [World.size_alloc, World.size_setCell, World.size_drew] at hz21
          have hb21b : Below w20.heap.size w20 w21 := by ((repeat (first | (with_reducible exact Below.refl _ _) | (with_reducible assumption) | (with_reducible refine Below.alloc ?_ ?_ _) | (with_reducible refine Below.setCell ?_ ?_ _) | (with_reducible refine Below.drew ?_) | (with_reducible refine below_setRow ?_ ?_ _) | (refine Below.trans ?_ (Below.mono (by assumption) ?_)))); all_goals (first | omega | (simp; done) | (simp; omega)))
          have kA_ := box_next hb21b hBA kA; clear kA
          have kA := kA_; clear kA_
          have hBA_ := Nat.lt_of_lt_of_le hBA hb21b.size; clear hBA; have hBA := hBA_; clear hBA_
          clear hb21; have hb21 := hb21b; clear hb21b
          have HB := Lib.hid (show scanD d ls = R by rw [← HT.out]; simp only [gF, g1, g2, gM, Bool.and_false, Bool.false_and, Bool.true_and, Bool.and_true, Bool.not_true, Bool.not_false, Bool.or_true, Bool.true_or, Bool.or_false, Bool.false_or])
          rw [HB.out]
          go_wp2
          go_ret
          exact ⟨rfl, by ((repeat (first | (with_reducible exact Below.refl _ _) | (with_reducible assumption) | (with_reducible refine Below.alloc ?_ ?_ _) | (with_reducible refine Below.setCell ?_ ?_ _) | (with_reducible refine Below.drew ?_) | (with_reducible refine below_setRow ?_ ?_ _) | (refine Below.trans ?_ (Below.mono (by assumption) ?_)))); all_goals (first | omega | (simp; done) | (simp; omega)))⟩
set_option maxRecDepth 100000 in
set_option maxHeartbeats 8000000 in
theorem implDecOk_k0 (d : Dc) (a : Option Addr) (cap n : Nat) (xs : List Shp) (sa : Option Addr) (scap m : Nat) (ls : List Lvl) (w : World) (h : Shs w a xs) (h' : Lvls w sa ls) (hx : xs.length = n) (hl : ls.length = m) (hn : n ≤ 1048576) (hm : fldSum xs ≤ 1048576) (hm' : m ≤ 1048576) (h1 : (planOk d.p xs && (decide ((m : Int) ≤ d.p.deep) && ls.all (lvlOk n))) = true) (h2 : inB d.mode 1 9 = true) (h3 : inB d.at_ 0 1000000000 = true) (h4 : inB d.start 0 d.at_ = true) (h5 : utfOk d.utf = true) (h6 : wireOk d.wire = true) (hM1 : ¬ d.mode = 1) (hM9 : ¬ d.mode = 9) (R : Bool) (hT : tailI d xs ls m = R) :
    Calls Try.prog 24 #[d.val (.slice a n cap) (.slice sa m scap)] w fun r w' => r = .returned (.bool R) ∧ Below w.heap.size w w' := by
  have HL := Lib.hid hl; clear hl
  have HX := Lib.hid hx; clear hx
  have HSs := Lib.hid h; clear h
  have HSl := Lib.hid h'; clear h'
  have e1 : (d.mode == 1) = false := by simp [hM1, hM9]
  have b1 : (d.mode != 1) = true := by simp [hM1, hM9]
  have e9 : (d.mode == 9) = false := by simp [hM1, hM9]
  have b9 : (d.mode != 9) = true := by simp [hM1, hM9]
  have hE0 : endOk d = sameEv ⟨d.end_.kind, d.end_.field, d.end_.bits, d.end_.len, d.end_.text, d.end_.code, d.end_.at_⟩ ⟨0, 0, 0, 0, ⟨#[]⟩, 0, 0⟩ := by simp only [endOk, hM9, if_false]; try rfl
  have hS0 : stack2 d m ls = !decide (topL ls < 1) := by simp only [stack2, hM1, hM9, if_false]; try rfl
  have hF0 : fieldIn d.field xs = (sameF ⟨d.field.number, d.field.kind, d.field.rep, d.field.packed, d.field.msg⟩ ⟨0, 0, false, false, 0⟩ || known d.field xs) := rfl
  simp only [tailI] at hT
  rw [hE0, hS0, hF0] at hT
  have HT := Lib.hid hT; clear hT hE0 hS0 hF0 hM1 hM9
  have hne1 := run_neq_ev
  have hne2 := run_neq_fld
  go_enter Try.func24, Try.ntmps24
  go_wp2_with (first | ((with_reducible show wpList _ _ _ (⟨_, Op.load 66 _, _, _, _, _⟩ :: _) _ _); first | (refine wpList_load_mid rfl 66 _ rfl w.heap.size 0 rfl (Dc.cl d (.slice a n cap) (.slice sa m scap)) _ (range_of_box (t := 66) (hset_new rfl)) Try.underlying66 rfl size_Dec ?_) | (refine wpList_load_want 66 _ rfl rfl w.heap.size 0 rfl (Dc.cl d (.slice a n cap) (.slice sa m scap)) _ (range_of_box (t := 66) (hset_new rfl)) Try.underlying66 rfl size_Dec ?_)))
  refine (levelsOk_any d a cap n xs sa scap m ls _ (HSs.out.keep (by ((repeat (first | (with_reducible exact Below.refl _ _) | (with_reducible assumption) | (with_reducible refine Below.alloc ?_ ?_ _) | (with_reducible refine Below.setCell ?_ ?_ _) | (with_reducible refine Below.drew ?_) | (with_reducible refine below_setRow ?_ ?_ _) | (refine Below.trans ?_ (Below.mono (by assumption) ?_)))); all_goals (first | omega | (simp; done) | (simp; omega))))) (Sl.keep HSl.out (by ((repeat (first | (with_reducible exact Below.refl _ _) | (with_reducible assumption) | (with_reducible refine Below.alloc ?_ ?_ _) | (with_reducible refine Below.setCell ?_ ?_ _) | (with_reducible refine Below.drew ?_) | (with_reducible refine below_setRow ?_ ?_ _) | (refine Below.trans ?_ (Below.mono (by assumption) ?_)))); all_goals (first | omega | (simp; done) | (simp; omega))))) HX.out HL.out hn hm hm').mono ?_
  rintro r w1 ⟨rfl, hb1⟩
  have hz1 := hb1.size
  try simp only [World.size_alloc, World.size_setCell, World.size_drew] at hz1
  have hb1b : Below w.heap.size w w1 := by ((repeat (first | (with_reducible exact Below.refl _ _) | (with_reducible assumption) | (with_reducible refine Below.alloc ?_ ?_ _) | (with_reducible refine Below.setCell ?_ ?_ _) | (with_reducible refine Below.drew ?_) | (with_reducible refine below_setRow ?_ ?_ _) | (refine Below.trans ?_ (Below.mono (by assumption) ?_)))); all_goals (first | omega | (simp; done) | (simp; omega)))
  have kA := box_new0 hb1
  have hBA := box_lt0 hb1
  try simp only [World.size_alloc, World.size_setCell, World.size_drew] at kA
  try simp only [World.size_alloc, World.size_setCell, World.size_drew] at hBA
  clear hb1; have hb1 := hb1b; clear hb1b
  rw [h1]
  go_wp2_with (first | ((with_reducible show wpList _ _ _ (⟨_, Op.load 66 _, _, _, _, _⟩ :: _) _ _); first | (refine wpList_load_mid rfl 66 _ rfl w.heap.size 0 rfl (Dc.cl d (.slice a n cap) (.slice sa m scap)) _ (range_of_cells (by assumption)) Try.underlying66 rfl size_Dec ?_) | (refine wpList_load_want 66 _ rfl rfl w.heap.size 0 rfl (Dc.cl d (.slice a n cap) (.slice sa m scap)) _ (range_of_cells (by assumption)) Try.underlying66 rfl size_Dec ?_)))
  refine (within_any _ _ _ _).mono ?_
  rintro r wx2 ⟨rfl, rfl⟩
  rw [h2]
  go_wp2_with (first | ((with_reducible show wpList _ _ _ (⟨_, Op.load 66 _, _, _, _, _⟩ :: _) _ _); first | (refine wpList_load_mid rfl 66 _ rfl w.heap.size 0 rfl (Dc.cl d (.slice a n cap) (.slice sa m scap)) _ (range_of_cells (by assumption)) Try.underlying66 rfl size_Dec ?_) | (refine wpList_load_want 66 _ rfl rfl w.heap.size 0 rfl (Dc.cl d (.slice a n cap) (.slice sa m scap)) _ (range_of_cells (by assumption)) Try.underlying66 rfl size_Dec ?_)))
  refine (within_any _ _ _ _).mono ?_
  rintro r wx3 ⟨rfl, rfl⟩
  rw [h3]
  go_wp2_with (first | ((with_reducible show wpList _ _ _ (⟨_, Op.load 66 _, _, _, _, _⟩ :: _) _ _); first | (refine wpList_load_mid rfl 66 _ rfl w.heap.size 0 rfl (Dc.cl d (.slice a n cap) (.slice sa m scap)) _ (range_of_cells (by assumption)) Try.underlying66 rfl size_Dec ?_) | (refine wpList_load_want 66 _ rfl rfl w.heap.size 0 rfl (Dc.cl d (.slice a n cap) (.slice sa m scap)) _ (range_of_cells (by assumption)) Try.underlying66 rfl size_Dec ?_)))
  refine (within_any _ _ _ _).mono ?_
  rintro r wx4 ⟨rfl, rfl⟩
  rw [h4]
  go_wp2_with (first | ((with_reducible show wpList _ _ _ (⟨_, Op.load 66 _, _, _, _, _⟩ :: _) _ _); first | (refine wpList_load_mid rfl 66 _ rfl w.heap.size 0 rfl (Dc.cl d (.slice a n cap) (.slice sa m scap)) _ (range_of_cells (by assumption)) Try.underlying66 rfl size_Dec ?_) | (refine wpList_load_want 66 _ rfl rfl w.heap.size 0 rfl (Dc.cl d (.slice a n cap) (.slice sa m scap)) _ (range_of_cells (by assumption)) Try.underlying66 rfl size_Dec ?_)))
  refine (implUtfOk_any d.utf _).mono ?_
  rintro r w5 ⟨rfl, hb5⟩
  have hz5 := hb5.size
  try simp only [World.size_alloc, World.size_setCell, World.size_drew] at hz5
  have hb5b : Below w1.heap.size w1 w5 := by ((repeat (first | (with_reducible exact Below.refl _ _) | (with_reducible assumption) | (with_reducible refine Below.alloc ?_ ?_ _) | (with_reducible refine Below.setCell ?_ ?_ _) | (with_reducible refine Below.drew ?_) | (with_reducible refine below_setRow ?_ ?_ _) | (refine Below.trans ?_ (Below.mono (by assumption) ?_)))); all_goals (first | omega | (simp; done) | (simp; omega)))
  have kA_ := box_next hb5b hBA kA; clear kA
  have kA := kA_; clear kA_
  have hBA_ := Nat.lt_of_lt_of_le hBA hb5b.size; clear hBA; have hBA := hBA_; clear hBA_
  clear hb5; have hb5 := hb5b; clear hb5b
  rw [h5]
  go_wp2_with (first | ((with_reducible show wpList _ _ _ (⟨_, Op.load 66 _, _, _, _, _⟩ :: _) _ _); first | (refine wpList_load_mid rfl 66 _ rfl w.heap.size 0 rfl (Dc.cl d (.slice a n cap) (.slice sa m scap)) _ (range_of_cells (by assumption)) Try.underlying66 rfl size_Dec ?_) | (refine wpList_load_want 66 _ rfl rfl w.heap.size 0 rfl (Dc.cl d (.slice a n cap) (.slice sa m scap)) _ (range_of_cells (by assumption)) Try.underlying66 rfl size_Dec ?_)))
  refine (implWireOk_any _ _).mono ?_
  rintro r wx6 ⟨rfl, rfl⟩
  rw [h6]
  cases gF : sameF ⟨d.field.number, d.field.kind, d.field.rep, d.field.packed, d.field.msg⟩ ⟨0, 0, false, false, 0⟩
  · skip
    go_wp2_with (first | ((with_reducible show wpList _ _ _ (⟨_, Op.load 66 _, _, _, _, _⟩ :: _) _ _); first | (refine wpList_load_mid rfl 66 _ rfl w.heap.size 0 rfl (Dc.cl d (.slice a n cap) (.slice sa m scap)) _ (range_of_cells (by assumption)) Try.underlying66 rfl size_Dec ?_) | (refine wpList_load_want 66 _ rfl rfl w.heap.size 0 rfl (Dc.cl d (.slice a n cap) (.slice sa m scap)) _ (range_of_cells (by assumption)) Try.underlying66 rfl size_Dec ?_)))
    refine (knownField_any d.p a cap n xs d.field _ (HSs.out.keep (by ((repeat (first | (with_reducible exact Below.refl _ _) | (with_reducible assumption) | (with_reducible refine Below.alloc ?_ ?_ _) | (with_reducible refine Below.setCell ?_ ?_ _) | (with_reducible refine Below.drew ?_) | (with_reducible refine below_setRow ?_ ?_ _) | (refine Below.trans ?_ (Below.mono (by assumption) ?_)))); all_goals (first | omega | (simp; done) | (simp; omega))))) HX.out hn hm).mono ?_
    rintro r w8 ⟨rfl, hb8⟩
    have hz8 := hb8.size
    try simp only [World.size_alloc, World.size_setCell, World.size_drew] at hz8
    have hb8b : Below w5.heap.size w5 w8 := by ((repeat (first | (with_reducible exact Below.refl _ _) | (with_reducible assumption) | (with_reducible refine Below.alloc ?_ ?_ _) | (with_reducible refine Below.setCell ?_ ?_ _) | (with_reducible refine Below.drew ?_) | (with_reducible refine below_setRow ?_ ?_ _) | (refine Below.trans ?_ (Below.mono (by assumption) ?_)))); all_goals (first | omega | (simp; done) | (simp; omega)))
    have kA_ := box_next hb8b hBA kA; clear kA
    have kA := kA_; clear kA_
    have hBA_ := Nat.lt_of_lt_of_le hBA hb8b.size; clear hBA; have hBA := hBA_; clear hBA_
    clear hb8; have hb8 := hb8b; clear hb8b
    cases gK : known d.field xs
    · skip
      have HB := Lib.hid (show false = R by rw [← HT.out]; simp only [gF, gK, Bool.and_false, Bool.false_and, Bool.true_and, Bool.and_true, Bool.not_true, Bool.not_false, Bool.or_true, Bool.true_or, Bool.or_false, Bool.false_or])
      clear HT
      go_wp2_with (first | ((with_reducible show wpList _ _ _ (⟨_, Op.load 66 _, _, _, _, _⟩ :: _) _ _); first | (refine wpList_load_mid rfl 66 _ rfl w.heap.size 0 rfl (Dc.cl d (.slice a n cap) (.slice sa m scap)) _ (range_of_cells (by assumption)) Try.underlying66 rfl size_Dec ?_) | (refine wpList_load_want 66 _ rfl rfl w.heap.size 0 rfl (Dc.cl d (.slice a n cap) (.slice sa m scap)) _ (range_of_cells (by assumption)) Try.underlying66 rfl size_Dec ?_)))
      go_ret
      exact ⟨ret_bool HB.out, by ((repeat (first | (with_reducible exact Below.refl _ _) | (with_reducible assumption) | (with_reducible refine Below.alloc ?_ ?_ _) | (with_reducible refine Below.setCell ?_ ?_ _) | (with_reducible refine Below.drew ?_) | (with_reducible refine below_setRow ?_ ?_ _) | (refine Below.trans ?_ (Below.mono (by assumption) ?_)))); all_goals (first | omega | (simp; done) | (simp; omega)))⟩
    · skip
      cases g1 : sameEv ⟨d.end_.kind, d.end_.field, d.end_.bits, d.end_.len, d.end_.text, d.end_.code, d.end_.at_⟩ ⟨0, 0, 0, 0, ⟨#[]⟩, 0, 0⟩
      · skip
        have HB := Lib.hid (show false = R by rw [← HT.out]; simp only [gF, gK, g1, Bool.and_false, Bool.false_and, Bool.true_and, Bool.and_true, Bool.not_true, Bool.not_false, Bool.or_true, Bool.true_or, Bool.or_false, Bool.false_or])
        clear HT
        go_wp2_with (first | ((with_reducible show wpList _ _ _ (⟨_, Op.load 66 _, _, _, _, _⟩ :: _) _ _); first | (refine wpList_load_mid rfl 66 _ rfl w.heap.size 0 rfl (Dc.cl d (.slice a n cap) (.slice sa m scap)) _ (range_of_cells (by assumption)) Try.underlying66 rfl size_Dec ?_) | (refine wpList_load_want 66 _ rfl rfl w.heap.size 0 rfl (Dc.cl d (.slice a n cap) (.slice sa m scap)) _ (range_of_cells (by assumption)) Try.underlying66 rfl size_Dec ?_)))
        go_ret
        exact ⟨ret_bool HB.out, by ((repeat (first | (with_reducible exact Below.refl _ _) | (with_reducible assumption) | (with_reducible refine Below.alloc ?_ ?_ _) | (with_reducible refine Below.setCell ?_ ?_ _) | (with_reducible refine Below.drew ?_) | (with_reducible refine below_setRow ?_ ?_ _) | (refine Below.trans ?_ (Below.mono (by assumption) ?_)))); all_goals (first | omega | (simp; done) | (simp; omega)))⟩
      · skip
        go_wp2_with (first | ((with_reducible show wpList _ _ _ (⟨_, Op.load 66 _, _, _, _, _⟩ :: _) _ _); first | (refine wpList_load_mid rfl 66 _ rfl w.heap.size 0 rfl (Dc.cl d (.slice a n cap) (.slice sa m scap)) _ (range_of_cells (by assumption)) Try.underlying66 rfl size_Dec ?_) | (refine wpList_load_want 66 _ rfl rfl w.heap.size 0 rfl (Dc.cl d (.slice a n cap) (.slice sa m scap)) _ (range_of_cells (by assumption)) Try.underlying66 rfl size_Dec ?_)))
        refine (implTop_any d a cap n xs sa scap m ls _ (HSs.out.keep (by ((repeat (first | (with_reducible exact Below.refl _ _) | (with_reducible assumption) | (with_reducible refine Below.alloc ?_ ?_ _) | (with_reducible refine Below.setCell ?_ ?_ _) | (with_reducible refine Below.drew ?_) | (with_reducible refine below_setRow ?_ ?_ _) | (refine Below.trans ?_ (Below.mono (by assumption) ?_)))); all_goals (first | omega | (simp; done) | (simp; omega))))) (Sl.keep HSl.out (by ((repeat (first | (with_reducible exact Below.refl _ _) | (with_reducible assumption) | (with_reducible refine Below.alloc ?_ ?_ _) | (with_reducible refine Below.setCell ?_ ?_ _) | (with_reducible refine Below.drew ?_) | (with_reducible refine below_setRow ?_ ?_ _) | (refine Below.trans ?_ (Below.mono (by assumption) ?_)))); all_goals (first | omega | (simp; done) | (simp; omega))))) HX.out HL.out hn hm hm').mono ?_
        rintro r w14 ⟨rfl, hb14⟩
        have hz14 := hb14.size
        try simp only [World.size_alloc, World.size_setCell, World.size_drew] at hz14
        have hb14b : Below w8.heap.size w8 w14 := by ((repeat (first | (with_reducible exact Below.refl _ _) | (with_reducible assumption) | (with_reducible refine Below.alloc ?_ ?_ _) | (with_reducible refine Below.setCell ?_ ?_ _) | (with_reducible refine Below.drew ?_) | (with_reducible refine below_setRow ?_ ?_ _) | (refine Below.trans ?_ (Below.mono (by assumption) ?_)))); all_goals (first | omega | (simp; done) | (simp; omega)))
        have kA_ := box_next hb14b hBA kA; clear kA
        have kA := kA_; clear kA_
        have hBA_ := Nat.lt_of_lt_of_le hBA hb14b.size; clear hBA; have hBA := hBA_; clear hBA_
        clear hb14; have hb14 := hb14b; clear hb14b
        cases gS : decide (topL ls < 1)
        · skip
          go_wp2_with (first | ((with_reducible show wpList _ _ _ (⟨_, Op.load 66 _, _, _, _, _⟩ :: _) _ _); first | (refine wpList_load_mid rfl 66 _ rfl w.heap.size 0 rfl (Dc.cl d (.slice a n cap) (.slice sa m scap)) _ (range_of_cells (by assumption)) Try.underlying66 rfl size_Dec ?_) | (refine wpList_load_want 66 _ rfl rfl w.heap.size 0 rfl (Dc.cl d (.slice a n cap) (.slice sa m scap)) _ (range_of_cells (by assumption)) Try.underlying66 rfl size_Dec ?_)))
          refine (implModeOk_any d a cap n xs sa scap m ls _ (HSs.out.keep (by ((repeat (first | (with_reducible exact Below.refl _ _) | (with_reducible assumption) | (with_reducible refine Below.alloc ?_ ?_ _) | (with_reducible refine Below.setCell ?_ ?_ _) | (with_reducible refine Below.drew ?_) | (with_reducible refine below_setRow ?_ ?_ _) | (refine Below.trans ?_ (Below.mono (by assumption) ?_)))); all_goals (first | omega | (simp; done) | (simp; omega))))) (Sl.keep HSl.out (by ((repeat (first | (with_reducible exact Below.refl _ _) | (with_reducible assumption) | (with_reducible refine Below.alloc ?_ ?_ _) | (with_reducible refine Below.setCell ?_ ?_ _) | (with_reducible refine Below.drew ?_) | (with_reducible refine below_setRow ?_ ?_ _) | (refine Below.trans ?_ (Below.mono (by assumption) ?_)))); all_goals (first | omega | (simp; done) | (simp; omega))))) HX.out HL.out hn hm hm' h2 h6).mono ?_
          rintro r w20 ⟨rfl, hb20⟩
          have hz20 := hb20.size
          try simp only [World.size_alloc, World.size_setCell, World.size_drew] at hz20
          have hb20b : Below w14.heap.size w14 w20 := by ((repeat (first | (with_reducible exact Below.refl _ _) | (with_reducible assumption) | (with_reducible refine Below.alloc ?_ ?_ _) | (with_reducible refine Below.setCell ?_ ?_ _) | (with_reducible refine Below.drew ?_) | (with_reducible refine below_setRow ?_ ?_ _) | (refine Below.trans ?_ (Below.mono (by assumption) ?_)))); all_goals (first | omega | (simp; done) | (simp; omega)))
          have kA_ := box_next hb20b hBA kA; clear kA
          have kA := kA_; clear kA_
          have hBA_ := Nat.lt_of_lt_of_le hBA hb20b.size; clear hBA; have hBA := hBA_; clear hBA_
          clear hb20; have hb20 := hb20b; clear hb20b
          cases gM : (wantOk d ls && kindOk d)
          · skip
            have HB := Lib.hid (show false = R by rw [← HT.out]; simp only [gF, gK, g1, gS, gM, Bool.and_false, Bool.false_and, Bool.true_and, Bool.and_true, Bool.not_true, Bool.not_false, Bool.or_true, Bool.true_or, Bool.or_false, Bool.false_or])
            clear HT
            go_wp2_with (first | ((with_reducible show wpList _ _ _ (⟨_, Op.load 66 _, _, _, _, _⟩ :: _) _ _); first | (refine wpList_load_mid rfl 66 _ rfl w.heap.size 0 rfl (Dc.cl d (.slice a n cap) (.slice sa m scap)) _ (range_of_cells (by assumption)) Try.underlying66 rfl size_Dec ?_) | (refine wpList_load_want 66 _ rfl rfl w.heap.size 0 rfl (Dc.cl d (.slice a n cap) (.slice sa m scap)) _ (range_of_cells (by assumption)) Try.underlying66 rfl size_Dec ?_)))
            go_ret
            exact ⟨ret_bool HB.out, by ((repeat (first | (with_reducible exact Below.refl _ _) | (with_reducible assumption) | (with_reducible refine Below.alloc ?_ ?_ _) | (with_reducible refine Below.setCell ?_ ?_ _) | (with_reducible refine Below.drew ?_) | (with_reducible refine below_setRow ?_ ?_ _) | (refine Below.trans ?_ (Below.mono (by assumption) ?_)))); all_goals (first | omega | (simp; done) | (simp; omega)))⟩
          · skip
            have hw5 := kind_width gM
            go_wp2_with (first | ((with_reducible show wpList _ _ _ (⟨_, Op.load 66 _, _, _, _, _⟩ :: _) _ _); first | (refine wpList_load_mid rfl 66 _ rfl w.heap.size 0 rfl (Dc.cl d (.slice a n cap) (.slice sa m scap)) _ (range_of_cells (by assumption)) Try.underlying66 rfl size_Dec ?_) | (refine wpList_load_want 66 _ rfl rfl w.heap.size 0 rfl (Dc.cl d (.slice a n cap) (.slice sa m scap)) _ (range_of_cells (by assumption)) Try.underlying66 rfl size_Dec ?_)))
            refine (implScanD_any d a cap n xs sa scap m ls _ (HSs.out.keep (by ((repeat (first | (with_reducible exact Below.refl _ _) | (with_reducible assumption) | (with_reducible refine Below.alloc ?_ ?_ _) | (with_reducible refine Below.setCell ?_ ?_ _) | (with_reducible refine Below.drew ?_) | (with_reducible refine below_setRow ?_ ?_ _) | (refine Below.trans ?_ (Below.mono (by assumption) ?_)))); all_goals (first | omega | (simp; done) | (simp; omega))))) (Sl.keep HSl.out (by ((repeat (first | (with_reducible exact Below.refl _ _) | (with_reducible assumption) | (with_reducible refine Below.alloc ?_ ?_ _) | (with_reducible refine Below.setCell ?_ ?_ _) | (with_reducible refine Below.drew ?_) | (with_reducible refine below_setRow ?_ ?_ _) | (refine Below.trans ?_ (Below.mono (by assumption) ?_)))); all_goals (first | omega | (simp; done) | (simp; omega))))) HX.out HL.out hn hm hm' hw5).mono ?_
            rintro r w21 ⟨rfl, hb21⟩
            have hz21 := hb21.size
            try simp only [World.size_alloc, World.size_setCell, World.size_drew] at hz21
            have hb21b : Below w20.heap.size w20 w21 := by ((repeat (first | (with_reducible exact Below.refl _ _) | (with_reducible assumption) | (with_reducible refine Below.alloc ?_ ?_ _) | (with_reducible refine Below.setCell ?_ ?_ _) | (with_reducible refine Below.drew ?_) | (with_reducible refine below_setRow ?_ ?_ _) | (refine Below.trans ?_ (Below.mono (by assumption) ?_)))); all_goals (first | omega | (simp; done) | (simp; omega)))
            have kA_ := box_next hb21b hBA kA; clear kA
            have kA := kA_; clear kA_
            have hBA_ := Nat.lt_of_lt_of_le hBA hb21b.size; clear hBA; have hBA := hBA_; clear hBA_
            clear hb21; have hb21 := hb21b; clear hb21b
            have HB := Lib.hid (show scanD d ls = R by rw [← HT.out]; simp only [gF, gK, g1, gS, gM, Bool.and_false, Bool.false_and, Bool.true_and, Bool.and_true, Bool.not_true, Bool.not_false, Bool.or_true, Bool.true_or, Bool.or_false, Bool.false_or])
            rw [HB.out]
            go_wp2
            go_ret
            exact ⟨rfl, by ((repeat (first | (with_reducible exact Below.refl _ _) | (with_reducible assumption) | (with_reducible refine Below.alloc ?_ ?_ _) | (with_reducible refine Below.setCell ?_ ?_ _) | (with_reducible refine Below.drew ?_) | (with_reducible refine below_setRow ?_ ?_ _) | (refine Below.trans ?_ (Below.mono (by assumption) ?_)))); all_goals (first | omega | (simp; done) | (simp; omega)))⟩
        · skip
          have HB := Lib.hid (show false = R by rw [← HT.out]; simp only [gF, gK, g1, gS, Bool.and_false, Bool.false_and, Bool.true_and, Bool.and_true, Bool.not_true, Bool.not_false, Bool.or_true, Bool.true_or, Bool.or_false, Bool.false_or])
          clear HT
          go_wp2_with (first | ((with_reducible show wpList _ _ _ (⟨_, Op.load 66 _, _, _, _, _⟩ :: _) _ _); first | (refine wpList_load_mid rfl 66 _ rfl w.heap.size 0 rfl (Dc.cl d (.slice a n cap) (.slice sa m scap)) _ (range_of_cells (by assumption)) Try.underlying66 rfl size_Dec ?_) | (refine wpList_load_want 66 _ rfl rfl w.heap.size 0 rfl (Dc.cl d (.slice a n cap) (.slice sa m scap)) _ (range_of_cells (by assumption)) Try.underlying66 rfl size_Dec ?_)))
          go_ret
          exact ⟨ret_bool HB.out, by ((repeat (first | (with_reducible exact Below.refl _ _) | (with_reducible assumption) | (with_reducible refine Below.alloc ?_ ?_ _) | (with_reducible refine Below.setCell ?_ ?_ _) | (with_reducible refine Below.drew ?_) | (with_reducible refine below_setRow ?_ ?_ _) | (refine Below.trans ?_ (Below.mono (by assumption) ?_)))); all_goals (first | omega | (simp; done) | (simp; omega)))⟩
  · skip
    cases g1 : sameEv ⟨d.end_.kind, d.end_.field, d.end_.bits, d.end_.len, d.end_.text, d.end_.code, d.end_.at_⟩ ⟨0, 0, 0, 0, ⟨#[]⟩, 0, 0⟩
    · skip
      have HB := Lib.hid (show false = R by rw [← HT.out]; simp only [gF, g1, Bool.and_false, Bool.false_and, Bool.true_and, Bool.and_true, Bool.not_true, Bool.not_false, Bool.or_true, Bool.true_or, Bool.or_false, Bool.false_or])
      clear HT
      go_wp2_with (first | ((with_reducible show wpList _ _ _ (⟨_, Op.load 66 _, _, _, _, _⟩ :: _) _ _); first | (refine wpList_load_mid rfl 66 _ rfl w.heap.size 0 rfl (Dc.cl d (.slice a n cap) (.slice sa m scap)) _ (range_of_cells (by assumption)) Try.underlying66 rfl size_Dec ?_) | (refine wpList_load_want 66 _ rfl rfl w.heap.size 0 rfl (Dc.cl d (.slice a n cap) (.slice sa m scap)) _ (range_of_cells (by assumption)) Try.underlying66 rfl size_Dec ?_)))
      go_ret
      exact ⟨ret_bool HB.out, by ((repeat (first | (with_reducible exact Below.refl _ _) | (with_reducible assumption) | (with_reducible refine Below.alloc ?_ ?_ _) | (with_reducible refine Below.setCell ?_ ?_ _) | (with_reducible refine Below.drew ?_) | (with_reducible refine below_setRow ?_ ?_ _) | (refine Below.trans ?_ (Below.mono (by assumption) ?_)))); all_goals (first | omega | (simp; done) | (simp; omega)))⟩
    · skip
      go_wp2_with (first | ((with_reducible show wpList _ _ _ (⟨_, Op.load 66 _, _, _, _, _⟩ :: _) _ _); first | (refine wpList_load_mid rfl 66 _ rfl w.heap.size 0 rfl (Dc.cl d (.slice a n cap) (.slice sa m scap)) _ (range_of_cells (by assumption)) Try.underlying66 rfl size_Dec ?_) | (refine wpList_load_want 66 _ rfl rfl w.heap.size 0 rfl (Dc.cl d (.slice a n cap) (.slice sa m scap)) _ (range_of_cells (by assumption)) Try.underlying66 rfl size_Dec ?_)))
      refine (implTop_any d a cap n xs sa scap m ls _ (HSs.out.keep (by ((repeat (first | (with_reducible exact Below.refl _ _) | (with_reducible assumption) | (with_reducible refine Below.alloc ?_ ?_ _) | (with_reducible refine Below.setCell ?_ ?_ _) | (with_reducible refine Below.drew ?_) | (with_reducible refine below_setRow ?_ ?_ _) | (refine Below.trans ?_ (Below.mono (by assumption) ?_)))); all_goals (first | omega | (simp; done) | (simp; omega))))) (Sl.keep HSl.out (by ((repeat (first | (with_reducible exact Below.refl _ _) | (with_reducible assumption) | (with_reducible refine Below.alloc ?_ ?_ _) | (with_reducible refine Below.setCell ?_ ?_ _) | (with_reducible refine Below.drew ?_) | (with_reducible refine below_setRow ?_ ?_ _) | (refine Below.trans ?_ (Below.mono (by assumption) ?_)))); all_goals (first | omega | (simp; done) | (simp; omega))))) HX.out HL.out hn hm hm').mono ?_
      rintro r w14 ⟨rfl, hb14⟩
      have hz14 := hb14.size
      try simp only [World.size_alloc, World.size_setCell, World.size_drew] at hz14
      have hb14b : Below w5.heap.size w5 w14 := by ((repeat (first | (with_reducible exact Below.refl _ _) | (with_reducible assumption) | (with_reducible refine Below.alloc ?_ ?_ _) | (with_reducible refine Below.setCell ?_ ?_ _) | (with_reducible refine Below.drew ?_) | (with_reducible refine below_setRow ?_ ?_ _) | (refine Below.trans ?_ (Below.mono (by assumption) ?_)))); all_goals (first | omega | (simp; done) | (simp; omega)))
      have kA_ := box_next hb14b hBA kA; clear kA
      have kA := kA_; clear kA_
      have hBA_ := Nat.lt_of_lt_of_le hBA hb14b.size; clear hBA; have hBA := hBA_; clear hBA_
      clear hb14; have hb14 := hb14b; clear hb14b
      cases gS : decide (topL ls < 1)
      · skip
        go_wp2_with (first | ((with_reducible show wpList _ _ _ (⟨_, Op.load 66 _, _, _, _, _⟩ :: _) _ _); first | (refine wpList_load_mid rfl 66 _ rfl w.heap.size 0 rfl (Dc.cl d (.slice a n cap) (.slice sa m scap)) _ (range_of_cells (by assumption)) Try.underlying66 rfl size_Dec ?_) | (refine wpList_load_want 66 _ rfl rfl w.heap.size 0 rfl (Dc.cl d (.slice a n cap) (.slice sa m scap)) _ (range_of_cells (by assumption)) Try.underlying66 rfl size_Dec ?_)))
        refine (implModeOk_any d a cap n xs sa scap m ls _ (HSs.out.keep (by ((repeat (first | (with_reducible exact Below.refl _ _) | (with_reducible assumption) | (with_reducible refine Below.alloc ?_ ?_ _) | (with_reducible refine Below.setCell ?_ ?_ _) | (with_reducible refine Below.drew ?_) | (with_reducible refine below_setRow ?_ ?_ _) | (refine Below.trans ?_ (Below.mono (by assumption) ?_)))); all_goals (first | omega | (simp; done) | (simp; omega))))) (Sl.keep HSl.out (by ((repeat (first | (with_reducible exact Below.refl _ _) | (with_reducible assumption) | (with_reducible refine Below.alloc ?_ ?_ _) | (with_reducible refine Below.setCell ?_ ?_ _) | (with_reducible refine Below.drew ?_) | (with_reducible refine below_setRow ?_ ?_ _) | (refine Below.trans ?_ (Below.mono (by assumption) ?_)))); all_goals (first | omega | (simp; done) | (simp; omega))))) HX.out HL.out hn hm hm' h2 h6).mono ?_
        rintro r w20 ⟨rfl, hb20⟩
        have hz20 := hb20.size
        try simp only [World.size_alloc, World.size_setCell, World.size_drew] at hz20
        have hb20b : Below w14.heap.size w14 w20 := by ((repeat (first | (with_reducible exact Below.refl _ _) | (with_reducible assumption) | (with_reducible refine Below.alloc ?_ ?_ _) | (with_reducible refine Below.setCell ?_ ?_ _) | (with_reducible refine Below.drew ?_) | (with_reducible refine below_setRow ?_ ?_ _) | (refine Below.trans ?_ (Below.mono (by assumption) ?_)))); all_goals (first | omega | (simp; done) | (simp; omega)))
        have kA_ := box_next hb20b hBA kA; clear kA
        have kA := kA_; clear kA_
        have hBA_ := Nat.lt_of_lt_of_le hBA hb20b.size; clear hBA; have hBA := hBA_; clear hBA_
        clear hb20; have hb20 := hb20b; clear hb20b
        cases gM : (wantOk d ls && kindOk d)
        · skip
          have HB := Lib.hid (show false = R by rw [← HT.out]; simp only [gF, g1, gS, gM, Bool.and_false, Bool.false_and, Bool.true_and, Bool.and_true, Bool.not_true, Bool.not_false, Bool.or_true, Bool.true_or, Bool.or_false, Bool.false_or])
          clear HT
          go_wp2_with (first | ((with_reducible show wpList _ _ _ (⟨_, Op.load 66 _, _, _, _, _⟩ :: _) _ _); first | (refine wpList_load_mid rfl 66 _ rfl w.heap.size 0 rfl (Dc.cl d (.slice a n cap) (.slice sa m scap)) _ (range_of_cells (by assumption)) Try.underlying66 rfl size_Dec ?_) | (refine wpList_load_want 66 _ rfl rfl w.heap.size 0 rfl (Dc.cl d (.slice a n cap) (.slice sa m scap)) _ (range_of_cells (by assumption)) Try.underlying66 rfl size_Dec ?_)))
          go_ret
          exact ⟨ret_bool HB.out, by ((repeat (first | (with_reducible exact Below.refl _ _) | (with_reducible assumption) | (with_reducible refine Below.alloc ?_ ?_ _) | (with_reducible refine Below.setCell ?_ ?_ _) | (with_reducible refine Below.drew ?_) | (with_reducible refine below_setRow ?_ ?_ _) | (refine Below.trans ?_ (Below.mono (by assumption) ?_)))); all_goals (first | omega | (simp; done) | (simp; omega)))⟩
        · skip
          have hw5 := kind_width gM
          go_wp2_with (first | ((with_reducible show wpList _ _ _ (⟨_, Op.load 66 _, _, _, _, _⟩ :: _) _ _); first | (refine wpList_load_mid rfl 66 _ rfl w.heap.size 0 rfl (Dc.cl d (.slice a n cap) (.slice sa m scap)) _ (range_of_cells (by assumption)) Try.underlying66 rfl size_Dec ?_) | (refine wpList_load_want 66 _ rfl rfl w.heap.size 0 rfl (Dc.cl d (.slice a n cap) (.slice sa m scap)) _ (range_of_cells (by assumption)) Try.underlying66 rfl size_Dec ?_)))
          refine (implScanD_any d a cap n xs sa scap m ls _ (HSs.out.keep (by ((repeat (first | (with_reducible exact Below.refl _ _) | (with_reducible assumption) | (with_reducible refine Below.alloc ?_ ?_ _) | (with_reducible refine Below.setCell ?_ ?_ _) | (with_reducible refine Below.drew ?_) | (with_reducible refine below_setRow ?_ ?_ _) | (refine Below.trans ?_ (Below.mono (by assumption) ?_)))); all_goals (first | omega | (simp; done) | (simp; omega))))) (Sl.keep HSl.out (by ((repeat (first | (with_reducible exact Below.refl _ _) | (with_reducible assumption) | (with_reducible refine Below.alloc ?_ ?_ _) | (with_reducible refine Below.setCell ?_ ?_ _) | (with_reducible refine Below.drew ?_) | (with_reducible refine below_setRow ?_ ?_ _) | (refine Below.trans ?_ (Below.mono (by assumption) ?_)))); all_goals (first | omega | (simp; done) | (simp; omega))))) HX.out HL.out hn hm hm' hw5).mono ?_
          rintro r w21 ⟨rfl, hb21⟩
          have hz21 := hb21.size
          try simp only [World.size_alloc, World.size_setCell, World.size_drew] at hz21
          have hb21b : Below w20.heap.size w20 w21 := by ((repeat (first | (with_reducible exact Below.refl _ _) | (with_reducible assumption) | (with_reducible refine Below.alloc ?_ ?_ _) | (with_reducible refine Below.setCell ?_ ?_ _) | (with_reducible refine Below.drew ?_) | (with_reducible refine below_setRow ?_ ?_ _) | (refine Below.trans ?_ (Below.mono (by assumption) ?_)))); all_goals (first | omega | (simp; done) | (simp; omega)))
          have kA_ := box_next hb21b hBA kA; clear kA
          have kA := kA_; clear kA_
          have hBA_ := Nat.lt_of_lt_of_le hBA hb21b.size; clear hBA; have hBA := hBA_; clear hBA_
          clear hb21; have hb21 := hb21b; clear hb21b
          have HB := Lib.hid (show scanD d ls = R by rw [← HT.out]; simp only [gF, g1, gS, gM, Bool.and_false, Bool.false_and, Bool.true_and, Bool.and_true, Bool.not_true, Bool.not_false, Bool.or_true, Bool.true_or, Bool.or_false, Bool.false_or])
          rw [HB.out]
          go_wp2
          go_ret
          exact ⟨rfl, by ((repeat (first | (with_reducible exact Below.refl _ _) | (with_reducible assumption) | (with_reducible refine Below.alloc ?_ ?_ _) | (with_reducible refine Below.setCell ?_ ?_ _) | (with_reducible refine Below.drew ?_) | (with_reducible refine below_setRow ?_ ?_ _) | (refine Below.trans ?_ (Below.mono (by assumption) ?_)))); all_goals (first | omega | (simp; done) | (simp; omega)))⟩
      · skip
        have HB := Lib.hid (show false = R by rw [← HT.out]; simp only [gF, g1, gS, Bool.and_false, Bool.false_and, Bool.true_and, Bool.and_true, Bool.not_true, Bool.not_false, Bool.or_true, Bool.true_or, Bool.or_false, Bool.false_or])
        clear HT
        go_wp2_with (first | ((with_reducible show wpList _ _ _ (⟨_, Op.load 66 _, _, _, _, _⟩ :: _) _ _); first | (refine wpList_load_mid rfl 66 _ rfl w.heap.size 0 rfl (Dc.cl d (.slice a n cap) (.slice sa m scap)) _ (range_of_cells (by assumption)) Try.underlying66 rfl size_Dec ?_) | (refine wpList_load_want 66 _ rfl rfl w.heap.size 0 rfl (Dc.cl d (.slice a n cap) (.slice sa m scap)) _ (range_of_cells (by assumption)) Try.underlying66 rfl size_Dec ?_)))
        go_ret
        exact ⟨ret_bool HB.out, by ((repeat (first | (with_reducible exact Below.refl _ _) | (with_reducible assumption) | (with_reducible refine Below.alloc ?_ ?_ _) | (with_reducible refine Below.setCell ?_ ?_ _) | (with_reducible refine Below.drew ?_) | (with_reducible refine below_setRow ?_ ?_ _) | (refine Below.trans ?_ (Below.mono (by assumption) ?_)))); all_goals (first | omega | (simp; done) | (simp; omega)))⟩
theorem implDecOk_any (d : Dc) (a : Option Addr) (cap n : Nat) (xs : List Shp) (sa : Option Addr) (scap m : Nat) (ls : List Lvl) (w : World) (h : Shs w a xs) (h' : Lvls w sa ls) (hx : xs.length = n) (hl : ls.length = m) (hn : n ≤ 1048576) (hm : fldSum xs ≤ 1048576) (hm' : m ≤ 1048576) :
    Calls Try.prog 24 #[d.val (.slice a n cap) (.slice sa m scap)] w fun r w' => r = .returned (.bool (decOk d xs ls)) ∧ Below w.heap.size w w' := by
  rw [decOk_parts hx hl]
  cases hh : headI d xs ls n m
  · rw [Bool.false_and]
    exact implDecOk_head d a cap n xs sa scap m ls w h h' hx hl hn hm hm' hh
  · rw [Bool.true_and]
    simp only [headI, Bool.and_eq_true] at hh
    obtain ⟨h1, h2, h3, h4, h5, h6⟩ := hh
    have h1' : (planOk d.p xs && (decide ((m : Int) ≤ d.p.deep) && ls.all (lvlOk n))) = true := by simpa only [Bool.and_eq_true] using h1
    by_cases hM1 : d.mode = 1
    · exact implDecOk_k1 d a cap n xs sa scap m ls w h h' hx hl hn hm hm' h1' h2 h3 h4 h5 h6 hM1 _ rfl
    · by_cases hM9 : d.mode = 9
      · exact implDecOk_k9 d a cap n xs sa scap m ls w h h' hx hl hn hm hm' h1' h2 h3 h4 h5 h6 hM9 _ rfl
      · exact implDecOk_k0 d a cap n xs sa scap m ls w h h' hx hl hn hm hm' h1' h2 h3 h4 h5 h6 hM1 hM9 _ rfl
end Go.Proofs.Ytbgejldjgkihaaa

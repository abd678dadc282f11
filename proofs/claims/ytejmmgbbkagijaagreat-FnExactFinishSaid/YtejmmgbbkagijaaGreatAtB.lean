/- Both AtBoundary and LeftIn; DecOk as the laws want it. -/
import Derived.Test.YtejmmgbbkagijaaGreatDok9
import Derived.Test.YtejmmgbbkagijaaGreatDok10
namespace Go.Proofs.YtejmmgbbkagijaaGreat
set_option linter.unusedSimpArgs false
set_option linter.unusedVariables false
open Go.ChangeShapes Go.WideShapes Go.ChangeAt Go.RowKit Go.BigFrame

theorem specDecOkL_any (d : Dc) (a : Option Addr) (cap n : Nat) (xs : List Shp) (sa : Option Addr) (scap m : Nat) (ls : List Lvl) (w : World) (h : Shs w a xs) (h' : Lvls w sa ls) (hd : d.ok) (hok : ∀ e ∈ xs, ShpOk e) (hx : xs.length = n) (hl : ls.length = m) (hn : n ≤ 1048576) (hm : fldSum xs ≤ 1048576) (hm' : m ≤ 1048576) :
    Calls Tryz.prog 21 #[d.val (.slice a n cap) (.slice sa m scap)] w fun r w' => r = .returned (.bool (decOk d xs ls)) ∧ Below w.heap.size w w' := by
  exact specDecOk_any d a cap n xs sa scap m ls w h h' hx hl hn hm hm'
theorem implDecOkL_any (d : Dc) (a : Option Addr) (cap n : Nat) (xs : List Shp) (sa : Option Addr) (scap m : Nat) (ls : List Lvl) (w : World) (h : Shs w a xs) (h' : Lvls w sa ls) (hd : d.ok) (hok : ∀ e ∈ xs, ShpOk e) (hx : xs.length = n) (hl : ls.length = m) (hn : n ≤ 1048576) (hm : fldSum xs ≤ 1048576) (hm' : m ≤ 1048576) :
    Calls Tryz.prog 30 #[d.val (.slice a n cap) (.slice sa m scap)] w fun r w' => r = .returned (.bool (decOk d xs ls)) ∧ Below w.heap.size w w' := by
  exact implDecOk_any d a cap n xs sa scap m ls w h h' hx hl hn hm hm'
def atBoundary (d : Dc) (xs : List Shp) (ls : List Lvl) : Bool := decOk d xs ls && (d.mode == 1 && d.have_ == 0)
set_option maxRecDepth 100000 in
theorem specAtBoundary_any (d : Dc) (a : Option Addr) (cap n : Nat) (xs : List Shp) (sa : Option Addr) (scap m : Nat) (ls : List Lvl) (w : World) (h : Shs w a xs) (h' : Lvls w sa ls) (hd : d.ok) (hok : ∀ e ∈ xs, ShpOk e) (hx : xs.length = n) (hl : ls.length = m) (hn : n ≤ 1048576) (hm : fldSum xs ≤ 1048576) (hm' : m ≤ 1048576) :
    Calls Tryz.prog 43 #[d.val (.slice a n cap) (.slice sa m scap)] w fun r w' => r = .returned (.bool (atBoundary d xs ls)) ∧ Below w.heap.size w w' := by
  have HL := Lib.hid hl; clear hl
  have HX := Lib.hid hx; clear hx
  have HSs := Lib.hid h; clear h
  have HSl := Lib.hid h'; clear h'
  go_enter Tryz.func43, Tryz.ntmps43
  go_wp2_with (first | ((with_reducible show wpList _ _ _ (⟨_, Op.load 51 _, _, _, _, _⟩ :: _) _ _); first | (refine wpList_load_mid rfl 51 _ rfl w.heap.size 0 rfl (Dc.cl d (.slice a n cap) (.slice sa m scap)) _ (range_of_box (t := 51) (hset_new rfl)) Tryz.underlying51 rfl size_Dec ?_) | (refine wpList_load_want 51 _ rfl rfl w.heap.size 0 rfl (Dc.cl d (.slice a n cap) (.slice sa m scap)) _ (range_of_box (t := 51) (hset_new rfl)) Tryz.underlying51 rfl size_Dec ?_)))
  refine (specDecOk_any d a cap n xs sa scap m ls _ (HSs.out.keep (by ((repeat (first | (with_reducible exact Below.refl _ _) | (with_reducible assumption) | (with_reducible refine Below.alloc ?_ ?_ _) | (with_reducible refine Below.setCell ?_ ?_ _) | (with_reducible refine Below.drew ?_) | (with_reducible refine below_setRow ?_ ?_ _) | (refine Below.trans ?_ (Below.mono (by assumption) ?_)))); all_goals (first | omega | (simp; done) | (simp; omega))))) (Sl.keep HSl.out (by ((repeat (first | (with_reducible exact Below.refl _ _) | (with_reducible assumption) | (with_reducible refine Below.alloc ?_ ?_ _) | (with_reducible refine Below.setCell ?_ ?_ _) | (with_reducible refine Below.drew ?_) | (with_reducible refine below_setRow ?_ ?_ _) | (refine Below.trans ?_ (Below.mono (by assumption) ?_)))); all_goals (first | omega | (simp; done) | (simp; omega))))) HX.out HL.out hn hm hm').mono ?_
  rintro r w1 ⟨rfl, hb1⟩
  have hz1 := hb1.size
  try simp only [World.size_alloc, World.size_setCell, World.size_drew] at hz1
  have hb1b : Below w.heap.size w w1 := by ((repeat (first | (with_reducible exact Below.refl _ _) | (with_reducible assumption) | (with_reducible refine Below.alloc ?_ ?_ _) | (with_reducible refine Below.setCell ?_ ?_ _) | (with_reducible refine Below.drew ?_) | (with_reducible refine below_setRow ?_ ?_ _) | (refine Below.trans ?_ (Below.mono (by assumption) ?_)))); all_goals (first | omega | (simp; done) | (simp; omega)))
  have kA := box_new0 hb1
  have hBA := box_lt0 hb1
  try simp only [World.size_alloc, World.size_setCell, World.size_drew] at kA
  try simp only [World.size_alloc, World.size_setCell, World.size_drew] at hBA
  clear hb1; have hb1 := hb1b; clear hb1b
  cases h1 : decOk d xs ls
  · go_wp2
    go_ret
    exact ⟨ret_bool (by simp [atBoundary, h1]), by ((repeat (first | (with_reducible exact Below.refl _ _) | (with_reducible assumption) | (with_reducible refine Below.alloc ?_ ?_ _) | (with_reducible refine Below.setCell ?_ ?_ _) | (with_reducible refine Below.drew ?_) | (with_reducible refine below_setRow ?_ ?_ _) | (refine Below.trans ?_ (Below.mono (by assumption) ?_)))); all_goals (first | omega | (simp; done) | (simp; omega)))⟩
  · cases h2 : (d.mode == 1)
    · go_wp2
      go_ret
      exact ⟨ret_bool (by simp [atBoundary, h1, h2]), by ((repeat (first | (with_reducible exact Below.refl _ _) | (with_reducible assumption) | (with_reducible refine Below.alloc ?_ ?_ _) | (with_reducible refine Below.setCell ?_ ?_ _) | (with_reducible refine Below.drew ?_) | (with_reducible refine below_setRow ?_ ?_ _) | (refine Below.trans ?_ (Below.mono (by assumption) ?_)))); all_goals (first | omega | (simp; done) | (simp; omega)))⟩
    · go_wp2
      go_ret
      exact ⟨ret_bool (by simp [atBoundary, h1, h2]), by ((repeat (first | (with_reducible exact Below.refl _ _) | (with_reducible assumption) | (with_reducible refine Below.alloc ?_ ?_ _) | (with_reducible refine Below.setCell ?_ ?_ _) | (with_reducible refine Below.drew ?_) | (with_reducible refine below_setRow ?_ ?_ _) | (refine Below.trans ?_ (Below.mono (by assumption) ?_)))); all_goals (first | omega | (simp; done) | (simp; omega)))⟩
set_option maxRecDepth 100000 in
theorem implAtBoundary_any (d : Dc) (a : Option Addr) (cap n : Nat) (xs : List Shp) (sa : Option Addr) (scap m : Nat) (ls : List Lvl) (w : World) (h : Shs w a xs) (h' : Lvls w sa ls) (hd : d.ok) (hok : ∀ e ∈ xs, ShpOk e) (hx : xs.length = n) (hl : ls.length = m) (hn : n ≤ 1048576) (hm : fldSum xs ≤ 1048576) (hm' : m ≤ 1048576) :
    Calls Tryz.prog 44 #[d.val (.slice a n cap) (.slice sa m scap)] w fun r w' => r = .returned (.bool (atBoundary d xs ls)) ∧ Below w.heap.size w w' := by
  have HL := Lib.hid hl; clear hl
  have HX := Lib.hid hx; clear hx
  have HSs := Lib.hid h; clear h
  have HSl := Lib.hid h'; clear h'
  go_enter Tryz.func44, Tryz.ntmps44
  go_wp2_with (first | ((with_reducible show wpList _ _ _ (⟨_, Op.load 51 _, _, _, _, _⟩ :: _) _ _); first | (refine wpList_load_mid rfl 51 _ rfl w.heap.size 0 rfl (Dc.cl d (.slice a n cap) (.slice sa m scap)) _ (range_of_box (t := 51) (hset_new rfl)) Tryz.underlying51 rfl size_Dec ?_) | (refine wpList_load_want 51 _ rfl rfl w.heap.size 0 rfl (Dc.cl d (.slice a n cap) (.slice sa m scap)) _ (range_of_box (t := 51) (hset_new rfl)) Tryz.underlying51 rfl size_Dec ?_)))
  refine (implDecOk_any d a cap n xs sa scap m ls _ (HSs.out.keep (by ((repeat (first | (with_reducible exact Below.refl _ _) | (with_reducible assumption) | (with_reducible refine Below.alloc ?_ ?_ _) | (with_reducible refine Below.setCell ?_ ?_ _) | (with_reducible refine Below.drew ?_) | (with_reducible refine below_setRow ?_ ?_ _) | (refine Below.trans ?_ (Below.mono (by assumption) ?_)))); all_goals (first | omega | (simp; done) | (simp; omega))))) (Sl.keep HSl.out (by ((repeat (first | (with_reducible exact Below.refl _ _) | (with_reducible assumption) | (with_reducible refine Below.alloc ?_ ?_ _) | (with_reducible refine Below.setCell ?_ ?_ _) | (with_reducible refine Below.drew ?_) | (with_reducible refine below_setRow ?_ ?_ _) | (refine Below.trans ?_ (Below.mono (by assumption) ?_)))); all_goals (first | omega | (simp; done) | (simp; omega))))) HX.out HL.out hn hm hm').mono ?_
  rintro r w1 ⟨rfl, hb1⟩
  have hz1 := hb1.size
  try simp only [World.size_alloc, World.size_setCell, World.size_drew] at hz1
  have hb1b : Below w.heap.size w w1 := by ((repeat (first | (with_reducible exact Below.refl _ _) | (with_reducible assumption) | (with_reducible refine Below.alloc ?_ ?_ _) | (with_reducible refine Below.setCell ?_ ?_ _) | (with_reducible refine Below.drew ?_) | (with_reducible refine below_setRow ?_ ?_ _) | (refine Below.trans ?_ (Below.mono (by assumption) ?_)))); all_goals (first | omega | (simp; done) | (simp; omega)))
  have kA := box_new0 hb1
  have hBA := box_lt0 hb1
  try simp only [World.size_alloc, World.size_setCell, World.size_drew] at kA
  try simp only [World.size_alloc, World.size_setCell, World.size_drew] at hBA
  clear hb1; have hb1 := hb1b; clear hb1b
  cases h1 : decOk d xs ls
  · go_wp2
    go_ret
    exact ⟨ret_bool (by simp [atBoundary, h1]), by ((repeat (first | (with_reducible exact Below.refl _ _) | (with_reducible assumption) | (with_reducible refine Below.alloc ?_ ?_ _) | (with_reducible refine Below.setCell ?_ ?_ _) | (with_reducible refine Below.drew ?_) | (with_reducible refine below_setRow ?_ ?_ _) | (refine Below.trans ?_ (Below.mono (by assumption) ?_)))); all_goals (first | omega | (simp; done) | (simp; omega)))⟩
  · cases h2 : (d.mode == 1)
    · go_wp2
      go_ret
      exact ⟨ret_bool (by simp [atBoundary, h1, h2]), by ((repeat (first | (with_reducible exact Below.refl _ _) | (with_reducible assumption) | (with_reducible refine Below.alloc ?_ ?_ _) | (with_reducible refine Below.setCell ?_ ?_ _) | (with_reducible refine Below.drew ?_) | (with_reducible refine below_setRow ?_ ?_ _) | (refine Below.trans ?_ (Below.mono (by assumption) ?_)))); all_goals (first | omega | (simp; done) | (simp; omega)))⟩
    · go_wp2
      go_ret
      exact ⟨ret_bool (by simp [atBoundary, h1, h2]), by ((repeat (first | (with_reducible exact Below.refl _ _) | (with_reducible assumption) | (with_reducible refine Below.alloc ?_ ?_ _) | (with_reducible refine Below.setCell ?_ ?_ _) | (with_reducible refine Below.drew ?_) | (with_reducible refine below_setRow ?_ ?_ _) | (refine Below.trans ?_ (Below.mono (by assumption) ?_)))); all_goals (first | omega | (simp; done) | (simp; omega)))⟩
def leftSum (ls : List Lvl) : Int := (ls.map Lvl.left).sum
def leftIn (d : Dc) (xs : List Shp) (ls : List Lvl) : Int := if decOk d xs ls then leftSum ls else 0
theorem leftSum_snoc {ls : List Lvl} {k : Nat} {e : Lvl} (he : ls[k]? = some e) : leftSum (ls.take (k + 1)) = leftSum (ls.take k) + e.left := by
  rw [List.take_add_one, he]; simp [leftSum]
theorem leftSum_le {n : Nat} : ∀ {ls : List Lvl}, ls.all (lvlOk n) = true → 0 ≤ leftSum ls ∧ leftSum ls ≤ 2000 * ls.length
  | [], _ => by simp [leftSum]
  | l :: ls, h => by
    simp only [List.all_cons, Bool.and_eq_true] at h
    have h1 := leftSum_le h.2
    have h2 : 0 ≤ l.left ∧ l.left ≤ 2000 := by have := h.1; simp only [lvlOk, inB, Bool.and_eq_true, decide_eq_true_eq] at this; omega
    simp only [leftSum, List.map_cons, List.sum_cons, List.length_cons] at h1 ⊢
    omega
theorem all_take {n : Nat} {ls : List Lvl} (h : ls.all (lvlOk n) = true) (k : Nat) : (ls.take k).all (lvlOk n) = true := by
  rw [List.all_eq_true] at h ⊢; exact fun x hx => h x (List.mem_of_mem_take hx)
theorem decOk_levels {d : Dc} {xs : List Shp} {ls : List Lvl} (h : decOk d xs ls = true) : ls.all (lvlOk xs.length) = true := by
  simp only [decOk, headOk, stackOk, Bool.and_eq_true] at h
  exact h.1.2.2.2.2.2.2.2.1
end Go.Proofs.YtejmmgbbkagijaaGreat

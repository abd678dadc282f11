/- Both AtBoundary and LeftIn; DecOk as the laws want it. -/
import Derived.Test.YtbgejldjgkihaaaDok9
import Derived.Test.YtbgejldjgkihaaaDok10
namespace Go.Proofs.Ytbgejldjgkihaaa
set_option linter.unusedSimpArgs false
set_option linter.unusedVariables false
open Go.ChangeShapes Go.WideShapes Go.ChangeAt Go.RowKit Go.BigFrame

theorem specDecOkL_any (d : Dc) (a : Option Addr) (cap n : Nat) (xs : List Shp) (sa : Option Addr) (scap m : Nat) (ls : List Lvl) (w : World) (h : Shs w a xs) (h' : Lvls w sa ls) (hd : d.ok) (hok : ∀ e ∈ xs, ShpOk e) (hx : xs.length = n) (hl : ls.length = m) (hn : n ≤ 1048576) (hm : fldSum xs ≤ 1048576) (hm' : m ≤ 1048576) :
    Calls Try.prog 25 #[d.val (.slice a n cap) (.slice sa m scap)] w fun r w' => r = .returned (.bool (decOk d xs ls)) ∧ Below w.heap.size w w' := by
  exact specDecOk_any d a cap n xs sa scap m ls w h h' hx hl hn hm hm'
theorem implDecOkL_any (d : Dc) (a : Option Addr) (cap n : Nat) (xs : List Shp) (sa : Option Addr) (scap m : Nat) (ls : List Lvl) (w : World) (h : Shs w a xs) (h' : Lvls w sa ls) (hd : d.ok) (hok : ∀ e ∈ xs, ShpOk e) (hx : xs.length = n) (hl : ls.length = m) (hn : n ≤ 1048576) (hm : fldSum xs ≤ 1048576) (hm' : m ≤ 1048576) :
    Calls Try.prog 24 #[d.val (.slice a n cap) (.slice sa m scap)] w fun r w' => r = .returned (.bool (decOk d xs ls)) ∧ Below w.heap.size w w' := by
  exact implDecOk_any d a cap n xs sa scap m ls w h h' hx hl hn hm hm'
def atBoundary (d : Dc) (xs : List Shp) (ls : List Lvl) : Bool := decOk d xs ls && (d.mode == 1 && d.have_ == 0)
set_option maxRecDepth 100000 in
theorem implAtBoundary_any (d : Dc) (a : Option Addr) (cap n : Nat) (xs : List Shp) (sa : Option Addr) (scap m : Nat) (ls : List Lvl) (w : World) (h : Shs w a xs) (h' : Lvls w sa ls) (hd : d.ok) (hok : ∀ e ∈ xs, ShpOk e) (hx : xs.length = n) (hl : ls.length = m) (hn : n ≤ 1048576) (hm : fldSum xs ≤ 1048576) (hm' : m ≤ 1048576) :
    Calls Try.prog 26 #[d.val (.slice a n cap) (.slice sa m scap)] w fun r w' => r = .returned (.bool (atBoundary d xs ls)) ∧ Below w.heap.size w w' := by
  have HL := Lib.hid hl; clear hl
  have HX := Lib.hid hx; clear hx
  have HSs := Lib.hid h; clear h
  have HSl := Lib.hid h'; clear h'
  go_enter Try.func26, Try.ntmps26
  go_wp2_with (first | ((with_reducible show wpList _ _ _ (⟨_, Op.load 66 _, _, _, _, _⟩ :: _) _ _); first | (refine wpList_load_mid rfl 66 _ rfl w.heap.size 0 rfl (Dc.cl d (.slice a n cap) (.slice sa m scap)) _ (range_of_box (t := 66) (hset_new rfl)) Try.underlying66 rfl size_Dec ?_) | (refine wpList_load_want 66 _ rfl rfl w.heap.size 0 rfl (Dc.cl d (.slice a n cap) (.slice sa m scap)) _ (range_of_box (t := 66) (hset_new rfl)) Try.underlying66 rfl size_Dec ?_)))
  refine (implDecOk_any d a cap n xs sa scap m ls _ (HSs.out.keep (by ((repeat (first | (with_reducible exact Below.refl _ _) | (with_reducible assumption) | (with_reducible refine Below.alloc ?_ ?_ _) | (with_reducible refine Below.setCell ?_ ?_ _) | (with_reducible refine Below.drew ?_) | (with_reducible refine below_setRow ?_ ?_ _) | (refine Below.trans ?_ (Below.mono (by assumption) ?_)))); all_goals (first | omega | (simp; done) | (simp; omega))))) (Sl.keep HSl.out (by ((repeat (first | (with_reducible exact Below.refl _ _) | (with_reducible assumption) | (with_reducible refine Below.alloc ?_ ?_ _) | (with_reducible refine Below.setCell ?_ ?_ _) | (with_reducible refine Below.drew ?_) | (with_reducible refine below_setRow ?_ ?_ _) | (refine Below.trans ?_ (Below.mono (by assumption) ?_)))); all_goals (first | omega | (simp; done) | (simp; omega))))) HX.out HL.out hn hm hm').mono ?_
  rintro r w1 ⟨rfl, hb1⟩
  have hz1 := hb1.size
  try simp only [World.size_alloc, World.size_setCell, World.size_drew] at hz1
  have hb1b : Below w.heap.size w w1 := by ((repeat (first | (with_reducible exact Below.refl _ _) | (with_reducible assumption) | (with_reducible refine Below.alloc ?_ ?_ _) | (with_reducible refine Below.setCell ?_ ?_ _) | (with_reducible refine Below.drew ?_) | (with_reducible refine below_setRow ?_ ?_ _) | (refine Below.trans ?_ (Below.mono (by assumption) ?_)))); all_goals (first | omega | (simp; done) | (simp; omega)))
  have kA := box_new0 hb1
  have hBA := box_lt0 hb1
  try simp only [World.size_alloc, World.size_setCell, World.size_drew] at kA
  try simp only [World.size_alloc, World.size_setCell, World.size_drew] at hBA
  clear hb1; have hb1 := hb1b; clear hb1b
  cases h1 : decOk d xs ls
  · go_wp2
    go_ret
    exact ⟨ret_bool (by simp [atBoundary, h1]), by ((repeat (first | (with_reducible exact Below.refl _ _) | (with_reducible assumption) | (with_reducible refine Below.alloc ?_ ?_ _) | (with_reducible refine Below.setCell ?_ ?_ _) | (with_reducible refine Below.drew ?_) | (with_reducible refine below_setRow ?_ ?_ _) | (refine Below.trans ?_ (Below.mono (by assumption) ?_)))); all_goals (first | omega | (simp; done) | (simp; omega)))⟩
  · cases h2 : (d.mode == 1)
    · go_wp2
      go_ret
      exact ⟨ret_bool (by simp [atBoundary, h1, h2]), by ((repeat (first | (with_reducible exact Below.refl _ _) | (with_reducible assumption) | (with_reducible refine Below.alloc ?_ ?_ _) | (with_reducible refine Below.setCell ?_ ?_ _) | (with_reducible refine Below.drew ?_) | (with_reducible refine below_setRow ?_ ?_ _) | (refine Below.trans ?_ (Below.mono (by assumption) ?_)))); all_goals (first | omega | (simp; done) | (simp; omega)))⟩
    · go_wp2
      go_ret
      exact ⟨ret_bool (by simp [atBoundary, h1, h2]), by ((repeat (first | (with_reducible exact Below.refl _ _) | (with_reducible assumption) | (with_reducible refine Below.alloc ?_ ?_ _) | (with_reducible refine Below.setCell ?_ ?_ _) | (with_reducible refine Below.drew ?_) | (with_reducible refine below_setRow ?_ ?_ _) | (refine Below.trans ?_ (Below.mono (by assumption) ?_)))); all_goals (first | omega | (simp; done) | (simp; omega)))⟩
def leftSum (ls : List Lvl) : Int := (ls.map Lvl.left).sum
def leftIn (d : Dc) (xs : List Shp) (ls : List Lvl) : Int := if decOk d xs ls then leftSum ls else 0
theorem leftSum_snoc {ls : List Lvl} {k : Nat} {e : Lvl} (he : ls[k]? = some e) : leftSum (ls.take (k + 1)) = leftSum (ls.take k) + e.left := by
  rw [List.take_add_one, he]; simp [leftSum]
theorem leftSum_le {n : Nat} : ∀ {ls : List Lvl}, ls.all (lvlOk n) = true → 0 ≤ leftSum ls ∧ leftSum ls ≤ 2000 * ls.length
  | [], _ => by simp [leftSum]
  | l :: ls, h => by
    simp only [List.all_cons, Bool.and_eq_true] at h
    have h1 := leftSum_le h.2
    have h2 : 0 ≤ l.left ∧ l.left ≤ 2000 := by have := h.1; simp only [lvlOk, inB, Bool.and_eq_true, decide_eq_true_eq] at this; omega
    simp only [leftSum, List.map_cons, List.sum_cons, List.length_cons] at h1 ⊢
    omega
theorem all_take {n : Nat} {ls : List Lvl} (h : ls.all (lvlOk n) = true) (k : Nat) : (ls.take k).all (lvlOk n) = true := by
  rw [List.all_eq_true] at h ⊢; exact fun x hx => h x (List.mem_of_mem_take hx)
theorem decOk_levels {d : Dc} {xs : List Shp} {ls : List Lvl} (h : decOk d xs ls = true) : ls.all (lvlOk xs.length) = true := by
  simp only [decOk, headOk, stackOk, Bool.and_eq_true] at h
  exact h.1.2.2.2.2.2.2.2.1
set_option maxRecDepth 100000 in
set_option maxHeartbeats 2000000 in
theorem implLeftIn_any (d : Dc) (a : Option Addr) (cap n : Nat) (xs : List Shp) (sa : Option Addr) (scap m : Nat) (ls : List Lvl) (w : World) (h : Shs w a xs) (h' : Lvls w sa ls) (hd : d.ok) (hok : ∀ e ∈ xs, ShpOk e) (hx : xs.length = n) (hl : ls.length = m) (hn : n ≤ 1048576) (hm : fldSum xs ≤ 1048576) (hm' : m ≤ 1048576) :
    Calls Try.prog 28 #[d.val (.slice a n cap) (.slice sa m scap)] w fun r w' => r = .returned (.int .i64 (leftIn d xs ls)) ∧ Below w.heap.size w w' := by
  have HL := Lib.hid hl; clear hl
  have HX := Lib.hid hx; clear hx
  have HSs := Lib.hid h; clear h
  have HSl := Lib.hid h'; clear h'
  have hb0 : True := trivial
  cases h1 : decOk d xs ls
  · have HR := Lib.hid (show (0 : Int) = leftIn d xs ls by simp [leftIn, h1])
    go_enter Try.func28, Try.ntmps28
    go_wp2_with (first | ((with_reducible show wpList _ _ _ (⟨_, Op.load 66 _, _, _, _, _⟩ :: _) _ _); first | (refine wpList_load_mid rfl 66 _ rfl w.heap.size 0 rfl (Dc.cl d (.slice a n cap) (.slice sa m scap)) _ (range_of_box (t := 66) (hset_new rfl)) Try.underlying66 rfl size_Dec ?_) | (refine wpList_load_want 66 _ rfl rfl w.heap.size 0 rfl (Dc.cl d (.slice a n cap) (.slice sa m scap)) _ (range_of_box (t := 66) (hset_new rfl)) Try.underlying66 rfl size_Dec ?_)))
    refine (implDecOk_any d a cap n xs sa scap m ls _ (HSs.out.keep (by ((repeat (first | (with_reducible exact Below.refl _ _) | (with_reducible assumption) | (with_reducible refine Below.alloc ?_ ?_ _) | (with_reducible refine Below.setCell ?_ ?_ _) | (with_reducible refine Below.drew ?_) | (with_reducible refine below_setRow ?_ ?_ _) | (refine Below.trans ?_ (Below.mono (by assumption) ?_)))); all_goals (first | omega | (simp; done) | (simp; omega))))) (Sl.keep HSl.out (by ((repeat (first | (with_reducible exact Below.refl _ _) | (with_reducible assumption) | (with_reducible refine Below.alloc ?_ ?_ _) | (with_reducible refine Below.setCell ?_ ?_ _) | (with_reducible refine Below.drew ?_) | (with_reducible refine below_setRow ?_ ?_ _) | (refine Below.trans ?_ (Below.mono (by assumption) ?_)))); all_goals (first | omega | (simp; done) | (simp; omega))))) HX.out HL.out hn hm hm').mono ?_
    rintro r w1 ⟨rfl, hb1⟩
    have hz1 := hb1.size
    try simp only [World.size_alloc, World.size_setCell, World.size_drew] at hz1
    have hb1b : Below w.heap.size w w1 := by ((repeat (first | (with_reducible exact Below.refl _ _) | (with_reducible assumption) | (with_reducible refine Below.alloc ?_ ?_ _) | (with_reducible refine Below.setCell ?_ ?_ _) | (with_reducible refine Below.drew ?_) | (with_reducible refine below_setRow ?_ ?_ _) | (refine Below.trans ?_ (Below.mono (by assumption) ?_)))); all_goals (first | omega | (simp; done) | (simp; omega)))
    have kA := box_new0 hb1
    have hBA := box_lt0 hb1
    try simp only [World.size_alloc, World.size_setCell, World.size_drew] at kA
    try simp only [World.size_alloc, World.size_setCell, World.size_drew] at hBA
    clear hb1; have hb1 := hb1b; clear hb1b
    rw [h1]
    go_wp2
    go_ret
    exact ⟨ret_int HR.out, by ((repeat (first | (with_reducible exact Below.refl _ _) | (with_reducible assumption) | (with_reducible refine Below.alloc ?_ ?_ _) | (with_reducible refine Below.setCell ?_ ?_ _) | (with_reducible refine Below.drew ?_) | (with_reducible refine below_setRow ?_ ?_ _) | (refine Below.trans ?_ (Below.mono (by assumption) ?_)))); all_goals (first | omega | (simp; done) | (simp; omega)))⟩
  · have HR := Lib.hid (show leftSum ls = leftIn d xs ls by simp [leftIn, h1])
    have HA := Lib.hid (decOk_levels h1)
    go_enter Try.func28, Try.ntmps28
    go_wp2_with (first | ((with_reducible show wpList _ _ _ (⟨_, Op.load 66 _, _, _, _, _⟩ :: _) _ _); first | (refine wpList_load_mid rfl 66 _ rfl w.heap.size 0 rfl (Dc.cl d (.slice a n cap) (.slice sa m scap)) _ (range_of_box (t := 66) (hset_new rfl)) Try.underlying66 rfl size_Dec ?_) | (refine wpList_load_want 66 _ rfl rfl w.heap.size 0 rfl (Dc.cl d (.slice a n cap) (.slice sa m scap)) _ (range_of_box (t := 66) (hset_new rfl)) Try.underlying66 rfl size_Dec ?_)))
    refine (implDecOk_any d a cap n xs sa scap m ls _ (HSs.out.keep (by ((repeat (first | (with_reducible exact Below.refl _ _) | (with_reducible assumption) | (with_reducible refine Below.alloc ?_ ?_ _) | (with_reducible refine Below.setCell ?_ ?_ _) | (with_reducible refine Below.drew ?_) | (with_reducible refine below_setRow ?_ ?_ _) | (refine Below.trans ?_ (Below.mono (by assumption) ?_)))); all_goals (first | omega | (simp; done) | (simp; omega))))) (Sl.keep HSl.out (by ((repeat (first | (with_reducible exact Below.refl _ _) | (with_reducible assumption) | (with_reducible refine Below.alloc ?_ ?_ _) | (with_reducible refine Below.setCell ?_ ?_ _) | (with_reducible refine Below.drew ?_) | (with_reducible refine below_setRow ?_ ?_ _) | (refine Below.trans ?_ (Below.mono (by assumption) ?_)))); all_goals (first | omega | (simp; done) | (simp; omega))))) HX.out HL.out hn hm hm').mono ?_
    rintro r w1 ⟨rfl, hb1⟩
    have hz1 := hb1.size
    try simp only [World.size_alloc, World.size_setCell, World.size_drew] at hz1
    have hb1b : Below w.heap.size w w1 := by ((repeat (first | (with_reducible exact Below.refl _ _) | (with_reducible assumption) | (with_reducible refine Below.alloc ?_ ?_ _) | (with_reducible refine Below.setCell ?_ ?_ _) | (with_reducible refine Below.drew ?_) | (with_reducible refine below_setRow ?_ ?_ _) | (refine Below.trans ?_ (Below.mono (by assumption) ?_)))); all_goals (first | omega | (simp; done) | (simp; omega)))
    have kA := box_new0 hb1
    have hBA := box_lt0 hb1
    try simp only [World.size_alloc, World.size_setCell, World.size_drew] at kA
    try simp only [World.size_alloc, World.size_setCell, World.size_drew] at hBA
    clear hb1; have hb1 := hb1b; clear hb1b
    rw [h1]
    go_wp2
    go_loopw [3, 13] (fun t i wr => ∃ (k : Nat) (q : Int), k ≤ m ∧ i = .int .i64 k ∧ t = .int .i64 q ∧ Hid (q = leftSum (ls.take k)) ∧ 0 ≤ q ∧ q ≤ 2000 * 1048576 ∧ Below w1.heap.size w1 wr) (fun _ i _ => m - (intOf i).toNat)
    case atStart => exact ⟨0, 0, Nat.zero_le _, rfl, rfl, Lib.hid (by simp [leftSum]), by omega, by omega, by ((repeat (first | (with_reducible exact Below.refl _ _) | (with_reducible assumption) | (with_reducible refine Below.alloc ?_ ?_ _) | (with_reducible refine Below.setCell ?_ ?_ _) | (with_reducible refine Below.drew ?_) | (with_reducible refine below_setRow ?_ ?_ _) | (refine Below.trans ?_ (Below.mono (by assumption) ?_)))); all_goals (first | omega | (simp; done) | (simp; omega)))⟩
    case round =>
      obtain ⟨k, q, hk, rfl, rfl, HQ, hq0, hq1, hb⟩ := hrel
      have hz := hb.size
      by_cases hlt : k < m
      · obtain ⟨e, he, _⟩ := at_lt (xs := ls) (k := k) (by rw [HL.out]; exact hlt)
        have HQ2 := Lib.hid (show q + e.left = leftSum (ls.take (k + 1)) by rw [leftSum_snoc he, HQ.out])
        have hq2 : 0 ≤ q + e.left ∧ q + e.left ≤ 2000 * 1048576 := by
          have := leftSum_le (all_take HA.out (k + 1))
          rw [← HQ2.out, List.length_take] at this
          omega
        obtain ⟨hq20, hq21⟩ := hq2
        obtain ⟨b, off, rfl, hlb, c0, c1⟩ := Lvls.at (Sl.keep HSl.out (show Below w.heap.size w wr by ((repeat (first | (with_reducible exact Below.refl _ _) | (with_reducible assumption) | (with_reducible refine Below.alloc ?_ ?_ _) | (with_reducible refine Below.setCell ?_ ?_ _) | (with_reducible refine Below.drew ?_) | (with_reducible refine below_setRow ?_ ?_ _) | (refine Below.trans ?_ (Below.mono (by assumption) ?_)))); all_goals (first | omega | (simp; done) | (simp; omega))))) he
        clear he
        go_wp2
        go_roundw
        case rel => exact ⟨k + 1, q + e.left, by omega, by go_num, by go_num, HQ2, hq20, hq21, by ((repeat (first | (with_reducible exact Below.refl _ _) | (with_reducible assumption) | (with_reducible refine Below.alloc ?_ ?_ _) | (with_reducible refine Below.setCell ?_ ?_ _) | (with_reducible refine Below.drew ?_) | (with_reducible refine below_setRow ?_ ?_ _) | (refine Below.trans ?_ (Below.mono (by assumption) ?_)))); all_goals (first | omega | (simp; done) | (simp; omega)))⟩
        case measure => simp [intOf]; omega
      · have hq : Hid (q = leftIn d xs ls) := Lib.hid (by rw [← HR.out, HQ.out, List.take_of_length_le (by rw [HL.out]; omega)])
        go_wp2
        go_ret
        exact ⟨ret_int hq.out, by ((repeat (first | (with_reducible exact Below.refl _ _) | (with_reducible assumption) | (with_reducible refine Below.alloc ?_ ?_ _) | (with_reducible refine Below.setCell ?_ ?_ _) | (with_reducible refine Below.drew ?_) | (with_reducible refine below_setRow ?_ ?_ _) | (refine Below.trans ?_ (Below.mono (by assumption) ?_)))); all_goals (first | omega | (simp; done) | (simp; omega)))⟩
end Go.Proofs.Ytbgejldjgkihaaa

/- Schemas compared. -/
import Derived.Test.YtbgejldjgkihaaaFind
namespace Go.Proofs.Ytbgejldjgkihaaa
set_option linter.unusedSimpArgs false
set_option linter.unusedVariables false
open Go.ChangeShapes Go.WideShapes Go.ChangeAt Go.RowKit Go.BigFrame

/-! ### schemas compared -/
def sameF (f g : Fld) : Bool := decide (f = g)
theorem run_neq_fld (a b e a' b' e' : Int) (p q p' q' : Bool) (w : World) :
    (binOp .neq 47 (.agg #[.int .i64 a, .int .i64 b, .bool p, .bool q, .int .i64 e]) (.agg #[.int .i64 a', .int .i64 b', .bool p', .bool q', .int .i64 e'])).run Try.prog w = .ok (.bool (!sameF ⟨a, b, p, q, e⟩ ⟨a', b', p', q', e'⟩)) w := by
  simp [go_sem, sameF]
  by_cases h1 : a = a' <;> by_cases h2 : b = b' <;> by_cases h3 : p = p' <;> by_cases h4 : q = q' <;> by_cases h5 : e = e' <;> simp [h1, h2, h3, h4, h5]
theorem run_eql_fld (a b e a' b' e' : Int) (p q p' q' : Bool) (w : World) :
    (binOp .eql 47 (.agg #[.int .i64 a, .int .i64 b, .bool p, .bool q, .int .i64 e]) (.agg #[.int .i64 a', .int .i64 b', .bool p', .bool q', .int .i64 e'])).run Try.prog w = .ok (.bool (sameF ⟨a, b, p, q, e⟩ ⟨a', b', p', q', e'⟩)) w := by
  simp [go_sem, sameF]
  by_cases h1 : a = a' <;> by_cases h2 : b = b' <;> by_cases h3 : p = p' <;> by_cases h4 : q = q' <;> by_cases h5 : e = e' <;> simp [h1, h2, h3, h4, h5]
theorem ne_of_at {α : Type} [DecidableEq α] {xs ys : List α} {k : Nat} {e f : α} (he : xs[k]? = some e) (hf : ys[k]? = some f) (h : ¬ e = f) : decide (xs = ys) = false := by
  simp only [decide_eq_false_iff_not]; rintro rfl; rw [he] at hf; simp at hf; exact h hf
theorem take_same {α : Type} {xs ys : List α} {k : Nat} {e : α} (h : xs.take k = ys.take k) (he : xs[k]? = some e) (hf : ys[k]? = some e) : xs.take (k + 1) = ys.take (k + 1) := by
  rw [List.take_add_one, List.take_add_one, h, he, hf]
theorem take_end {α : Type} [DecidableEq α] {xs ys : List α} {k : Nat} (h : xs.take k = ys.take k) (h1 : xs.length ≤ k) (h2 : ys.length ≤ k) : decide (xs = ys) = true := by
  rw [List.take_of_length_le h1, List.take_of_length_le h2] at h; simp [h]
set_option maxHeartbeats 2000000 in
theorem slicesEqualFld_any (a a' : Option Addr) (cap cap' n n' : Nat) (xs ys : List Fld) (w : World) (h : Flds w a xs) (h' : Flds w a' ys) (hx : xs.length = n) (hy : ys.length = n') (hn : n ≤ 1048576) (hn' : n' ≤ 1048576) :
    Calls Try.prog 89 #[.slice a n cap, .slice a' n' cap'] w fun r w' => r = .returned (.bool (decide (xs = ys))) ∧ Below w.heap.size w w' := by
  have HX := Lib.hid hx; clear hx
  have HY := Lib.hid hy; clear hy
  by_cases hl : n = n'
  · subst hl
    go_enter Try.func89, Try.ntmps89
    go_wp2
    go_loopw [4, 5, 13] (fun t i j wr => ∃ k : Nat, k ≤ n ∧ j = .int .i64 k ∧ t = .bool false ∧ Hid (xs.take k = ys.take k) ∧ Below w.heap.size w wr) (fun _ _ i _ => n - (intOf i).toNat)
    case atStart => exact ⟨0, Nat.zero_le _, rfl, rfl, Lib.hid rfl, Below.refl _ _⟩
    case round =>
      obtain ⟨k, hk, rfl, rfl, HT, hb⟩ := hrel
      have hz := hb.size
      by_cases hlt : k < n
      · obtain ⟨e, he, _⟩ := at_lt (xs := xs) (k := k) (by rw [HX.out]; exact hlt)
        obtain ⟨f, hf, _⟩ := at_lt (xs := ys) (k := k) (by rw [HY.out]; exact hlt)
        have HE := Lib.hid he
        have HF := Lib.hid hf
        obtain ⟨b, off, rfl, hlb, c0, c1, c2, c3, c4⟩ := Flds.at (h.below hb (Nat.le_refl _)) he
        obtain ⟨b', off', rfl, hlb', d0, d1, d2, d3, d4⟩ := Flds.at (h'.below hb (Nat.le_refl _)) hf
        clear he hf
        by_cases hef : e = f
        · have hd : sameF e f = true := by simp [sameF, hef]
          have HD := Lib.hid hef; clear hef
          have HT2 := Lib.hid (take_same HT.out HE.out (by rw [HD.out]; exact HF.out))
          have hne := run_neq_fld
          go_wp2_with fail
          (refine wp_region_ext (by kernel_rfl) (by kernel_rfl) ?_; (repeat (go_big_quiet_step (fail))); refine wpQuiet_nil ?_; intro w1 hb1; obtain ⟨hc1, hf1⟩ := bcell hb1; have hz1 := hb1.size; (try simp only [World.size_alloc, World.size_setCell, World.size_drew] at hz1))
          go_wp2
          go_roundw
          case rel => exact ⟨k + 1, by omega, by go_num, rfl, HT2, by ((repeat (first | (with_reducible exact Below.refl _ _) | (with_reducible assumption) | (with_reducible refine Below.alloc ?_ ?_ _) | (with_reducible refine Below.setCell ?_ ?_ _) | (with_reducible refine Below.drew ?_) | (with_reducible refine below_setRow ?_ ?_ _) | (refine Below.trans ?_ (Below.mono (by assumption) ?_)))); all_goals (first | omega | (simp; done) | (simp; omega)))⟩
          case measure => simp [intOf]; omega
        · have hd : sameF e f = false := by simp [sameF, hef]
          have HS := Lib.hid (ne_of_at HE.out HF.out hef)
          clear hef
          have hne := run_neq_fld
          go_wp2_with fail
          (refine wp_region_ext (by kernel_rfl) (by kernel_rfl) ?_; (repeat (go_big_quiet_step (fail))); refine wpQuiet_nil ?_; intro w1 hb1; obtain ⟨hc1, hf1⟩ := bcell hb1; have hz1 := hb1.size; (try simp only [World.size_alloc, World.size_setCell, World.size_drew] at hz1))
          go_wp2
          go_ret
          exact ⟨ret_bool HS.out.symm, by ((repeat (first | (with_reducible exact Below.refl _ _) | (with_reducible assumption) | (with_reducible refine Below.alloc ?_ ?_ _) | (with_reducible refine Below.setCell ?_ ?_ _) | (with_reducible refine Below.drew ?_) | (with_reducible refine below_setRow ?_ ?_ _) | (refine Below.trans ?_ (Below.mono (by assumption) ?_)))); all_goals (first | omega | (simp; done) | (simp; omega)))⟩
      · have HS := Lib.hid (take_end HT.out (by rw [HX.out]; omega) (by rw [HY.out]; omega))
        go_wp2
        go_ret
        exact ⟨ret_bool HS.out.symm, hb⟩
  · have HS := Lib.hid (show decide (xs = ys) = false by
      simp only [decide_eq_false_iff_not]; intro hxy; subst hxy; exact hl (HX.out.symm.trans HY.out))
    have hl' : ((n : Int) != (n' : Int)) = true := by simp; omega
    go_enter Try.func89, Try.ntmps89
    go_wp2
    go_ret
    exact ⟨ret_bool HS.out.symm, Below.refl _ _⟩
set_option maxHeartbeats 2000000 in
theorem sameSchema1_any (x y : Int) (fs gs : List Fld) (a a' : Option Addr) (n n' cap cap' : Nat) (w : World) (h : Flds w a fs) (h' : Flds w a' gs) (hx : fs.length = n) (hy : gs.length = n') (hn : n ≤ 1048576) (hn' : n' ≤ 1048576) :
    Calls Try.prog 88 #[.agg #[.int .i64 x, .slice a n cap], .agg #[.int .i64 y, .slice a' n' cap']] w fun r w' => r = .returned (.bool (x == y && decide (fs = gs))) ∧ Below w.heap.size w w' := by
  have HX := Lib.hid hx; clear hx
  have HY := Lib.hid hy; clear hy
  have HS1 := Lib.hid h; clear h
  have HS2 := Lib.hid h'; clear h'
  obtain ⟨q, hq⟩ : ∃ q, decide (fs = gs) = q := ⟨_, rfl⟩
  rw [hq]
  have HQ := Lib.hid hq; clear hq
  by_cases hxy : x = y
  · subst hxy
    go_enter Try.func88, Try.ntmps88
    go_wp2_with fail
    refine (slicesEqualFld_any _ _ _ _ _ _ fs gs _ (Sl.keep HS1.out (by ((repeat (first | (with_reducible exact Below.refl _ _) | (with_reducible assumption) | (with_reducible refine Below.alloc ?_ ?_ _) | (with_reducible refine Below.setCell ?_ ?_ _) | (with_reducible refine Below.drew ?_) | (with_reducible refine below_setRow ?_ ?_ _) | (refine Below.trans ?_ (Below.mono (by assumption) ?_)))); all_goals (first | omega | (simp; done) | (simp; omega))))) (Sl.keep HS2.out (by ((repeat (first | (with_reducible exact Below.refl _ _) | (with_reducible assumption) | (with_reducible refine Below.alloc ?_ ?_ _) | (with_reducible refine Below.setCell ?_ ?_ _) | (with_reducible refine Below.drew ?_) | (with_reducible refine below_setRow ?_ ?_ _) | (refine Below.trans ?_ (Below.mono (by assumption) ?_)))); all_goals (first | omega | (simp; done) | (simp; omega))))) HX.out HY.out hn hn').mono ?_
    rintro r w1 ⟨rfl, hb1⟩
    rw [HQ.out]
    go_wp2
    go_ret
    exact ⟨ret_bool (by simp), by ((repeat (first | (with_reducible exact Below.refl _ _) | (with_reducible assumption) | (with_reducible refine Below.alloc ?_ ?_ _) | (with_reducible refine Below.setCell ?_ ?_ _) | (with_reducible refine Below.drew ?_) | (with_reducible refine below_setRow ?_ ?_ _) | (refine Below.trans ?_ (Below.mono (by assumption) ?_)))); all_goals (first | omega | (simp; done) | (simp; omega)))⟩
  · have hxy' : (x == y) = false := by simp [hxy]
    clear hxy
    go_enter Try.func88, Try.ntmps88
    go_wp2
    go_ret
    exact ⟨ret_bool (by simp [hxy']), by ((repeat (first | (with_reducible exact Below.refl _ _) | (with_reducible assumption) | (with_reducible refine Below.alloc ?_ ?_ _) | (with_reducible refine Below.setCell ?_ ?_ _) | (with_reducible refine Below.drew ?_) | (with_reducible refine below_setRow ?_ ?_ _) | (refine Below.trans ?_ (Below.mono (by assumption) ?_)))); all_goals (first | omega | (simp; done) | (simp; omega)))⟩
theorem shp_eq (e f : Shp) : (e.id == f.id && decide (e.flds = f.flds)) = decide (e = f) := by
  obtain ⟨i, x⟩ := e; obtain ⟨j, y⟩ := f
  rw [Bool.eq_iff_iff]; simp
set_option maxHeartbeats 2000000 in
theorem equalFuncShp_any (a a' : Option Addr) (cap cap' n n' : Nat) (xs ys : List Shp) (w : World) (h : Shs w a xs) (h' : Shs w a' ys) (hx : xs.length = n) (hy : ys.length = n') (hn : n ≤ 1048576) (hn' : n' ≤ 1048576) (hm : fldSum xs ≤ 1048576) (hm' : fldSum ys ≤ 1048576) :
    Calls Try.prog 87 #[.slice a n cap, .slice a' n' cap', .func (.func 88) #[] #[]] w fun r w' => r = .returned (.bool (decide (xs = ys))) ∧ Below w.heap.size w w' := by
  have HX := Lib.hid hx; clear hx
  have HY := Lib.hid hy; clear hy
  by_cases hl : n = n'
  · subst hl
    go_enter Try.func87, Try.ntmps87
    go_wp2
    go_loopw [6, 17] (fun t j wr => ∃ k : Nat, k ≤ n ∧ j = .int .i64 k ∧ t = .bool false ∧ Hid (xs.take k = ys.take k) ∧ Below w.heap.size w wr) (fun _ i _ => n - (intOf i).toNat)
    case atStart => exact ⟨0, Nat.zero_le _, rfl, rfl, Lib.hid rfl, Below.refl _ _⟩
    case round =>
      obtain ⟨k, hk, rfl, rfl, HT, hb⟩ := hrel
      have hz := hb.size
      by_cases hlt : k < n
      · obtain ⟨e, he, _⟩ := at_lt (xs := xs) (k := k) (by rw [HX.out]; exact hlt)
        obtain ⟨f, hf, _⟩ := at_lt (xs := ys) (k := k) (by rw [HY.out]; exact hlt)
        have HE := Lib.hid he
        have HF := Lib.hid hf
        have hne := Nat.le_trans (fldSum_ge he) hm
        have hnf := Nat.le_trans (fldSum_ge hf) hm'
        obtain ⟨b, off, a1, cap1, rfl, hlb, c0, c1, hs1⟩ := h.below hb (Nat.le_refl _) k e he
        obtain ⟨b', off', a2, cap2, rfl, hlb', d0, d1, hs2⟩ := h'.below hb (Nat.le_refl _) k f hf
        clear he hf
        have HS1 := Lib.hid hs1; clear hs1
        have HS2 := Lib.hid hs2; clear hs2
        have HQ := Lib.hid (shp_eq e f)
        by_cases hef : e = f
        · have HD := Lib.hid hef
          have HT2 := Lib.hid (take_same HT.out HE.out (by rw [HD.out]; exact HF.out))
          have HQ2 := Lib.hid (show (e.id == f.id && decide (e.flds = f.flds)) = true by rw [HQ.out]; simp [hef])
          clear hef
          go_wp2_with fail
          refine (sameSchema1_any _ _ e.flds f.flds _ _ _ _ _ _ _ (Sl.keep HS1.out (by ((repeat (first | (with_reducible exact Below.refl _ _) | (with_reducible assumption) | (with_reducible refine Below.alloc ?_ ?_ _) | (with_reducible refine Below.setCell ?_ ?_ _) | (with_reducible refine Below.drew ?_) | (with_reducible refine below_setRow ?_ ?_ _) | (refine Below.trans ?_ (Below.mono (by assumption) ?_)))); all_goals (first | omega | (simp; done) | (simp; omega))))) (Sl.keep HS2.out (by ((repeat (first | (with_reducible exact Below.refl _ _) | (with_reducible assumption) | (with_reducible refine Below.alloc ?_ ?_ _) | (with_reducible refine Below.setCell ?_ ?_ _) | (with_reducible refine Below.drew ?_) | (with_reducible refine below_setRow ?_ ?_ _) | (refine Below.trans ?_ (Below.mono (by assumption) ?_)))); all_goals (first | omega | (simp; done) | (simp; omega))))) rfl rfl hne hnf).mono ?_
          rintro r w1 ⟨rfl, hb1⟩
          have hz1 := hb1.size
          rw [HQ2.out]
          go_wp2
          go_roundw
          case rel => exact ⟨k + 1, by omega, by go_num, rfl, HT2, by ((repeat (first | (with_reducible exact Below.refl _ _) | (with_reducible assumption) | (with_reducible refine Below.alloc ?_ ?_ _) | (with_reducible refine Below.setCell ?_ ?_ _) | (with_reducible refine Below.drew ?_) | (with_reducible refine below_setRow ?_ ?_ _) | (refine Below.trans ?_ (Below.mono (by assumption) ?_)))); all_goals (first | omega | (simp; done) | (simp; omega)))⟩
          case measure => simp [intOf]; omega
        · have HS := Lib.hid (ne_of_at HE.out HF.out hef)
          have HQ2 := Lib.hid (show (e.id == f.id && decide (e.flds = f.flds)) = false by rw [HQ.out]; simp [hef])
          clear hef
          go_wp2_with fail
          refine (sameSchema1_any _ _ e.flds f.flds _ _ _ _ _ _ _ (Sl.keep HS1.out (by ((repeat (first | (with_reducible exact Below.refl _ _) | (with_reducible assumption) | (with_reducible refine Below.alloc ?_ ?_ _) | (with_reducible refine Below.setCell ?_ ?_ _) | (with_reducible refine Below.drew ?_) | (with_reducible refine below_setRow ?_ ?_ _) | (refine Below.trans ?_ (Below.mono (by assumption) ?_)))); all_goals (first | omega | (simp; done) | (simp; omega))))) (Sl.keep HS2.out (by ((repeat (first | (with_reducible exact Below.refl _ _) | (with_reducible assumption) | (with_reducible refine Below.alloc ?_ ?_ _) | (with_reducible refine Below.setCell ?_ ?_ _) | (with_reducible refine Below.drew ?_) | (with_reducible refine below_setRow ?_ ?_ _) | (refine Below.trans ?_ (Below.mono (by assumption) ?_)))); all_goals (first | omega | (simp; done) | (simp; omega))))) rfl rfl hne hnf).mono ?_
          rintro r w1 ⟨rfl, hb1⟩
          rw [HQ2.out]
          go_wp2
          go_ret
          exact ⟨ret_bool HS.out.symm, by ((repeat (first | (with_reducible exact Below.refl _ _) | (with_reducible assumption) | (with_reducible refine Below.alloc ?_ ?_ _) | (with_reducible refine Below.setCell ?_ ?_ _) | (with_reducible refine Below.drew ?_) | (with_reducible refine below_setRow ?_ ?_ _) | (refine Below.trans ?_ (Below.mono (by assumption) ?_)))); all_goals (first | omega | (simp; done) | (simp; omega)))⟩
      · have HS := Lib.hid (take_end HT.out (by rw [HX.out]; omega) (by rw [HY.out]; omega))
        go_wp2
        go_ret
        exact ⟨ret_bool HS.out.symm, hb⟩
  · have HS := Lib.hid (show decide (xs = ys) = false by
      simp only [decide_eq_false_iff_not]; intro hxy; subst hxy; exact hl (HX.out.symm.trans HY.out))
    have hl' : ((n : Int) != (n' : Int)) = true := by simp; omega
    go_enter Try.func87, Try.ntmps87
    go_wp2
    go_ret
    exact ⟨ret_bool HS.out.symm, Below.refl _ _⟩
theorem implSameSchema_any (a a' : Option Addr) (cap cap' n n' : Nat) (xs ys : List Shp) (w : World) (h : Shs w a xs) (h' : Shs w a' ys) (hx : xs.length = n) (hy : ys.length = n') (hn : n ≤ 1048576) (hn' : n' ≤ 1048576) (hm : fldSum xs ≤ 1048576) (hm' : fldSum ys ≤ 1048576) :
    Calls Try.prog 31 #[.agg #[.slice a n cap], .agg #[.slice a' n' cap']] w fun r w' => r = .returned (.bool (decide (xs = ys))) ∧ Below w.heap.size w w' := by
  have HX := Lib.hid hx; clear hx
  have HY := Lib.hid hy; clear hy
  have HS1 := Lib.hid h; clear h
  have HS2 := Lib.hid h'; clear h'
  obtain ⟨q, hq⟩ : ∃ q, decide (xs = ys) = q := ⟨_, rfl⟩
  rw [hq]
  have HQ := Lib.hid hq; clear hq
  go_enter Try.func31, Try.ntmps31
  go_wp2_with fail
  refine (equalFuncShp_any _ _ _ _ _ _ xs ys _ (HS1.out.keep (by ((repeat (first | (with_reducible exact Below.refl _ _) | (with_reducible assumption) | (with_reducible refine Below.alloc ?_ ?_ _) | (with_reducible refine Below.setCell ?_ ?_ _) | (with_reducible refine Below.drew ?_) | (with_reducible refine below_setRow ?_ ?_ _) | (refine Below.trans ?_ (Below.mono (by assumption) ?_)))); all_goals (first | omega | (simp; done) | (simp; omega))))) (HS2.out.keep (by ((repeat (first | (with_reducible exact Below.refl _ _) | (with_reducible assumption) | (with_reducible refine Below.alloc ?_ ?_ _) | (with_reducible refine Below.setCell ?_ ?_ _) | (with_reducible refine Below.drew ?_) | (with_reducible refine below_setRow ?_ ?_ _) | (refine Below.trans ?_ (Below.mono (by assumption) ?_)))); all_goals (first | omega | (simp; done) | (simp; omega))))) HX.out HY.out hn hn' hm hm').mono ?_
  rintro r w1 ⟨rfl, hb1⟩
  rw [HQ.out]
  go_wp2
  go_ret
  exact ⟨rfl, by ((repeat (first | (with_reducible exact Below.refl _ _) | (with_reducible assumption) | (with_reducible refine Below.alloc ?_ ?_ _) | (with_reducible refine Below.setCell ?_ ?_ _) | (with_reducible refine Below.drew ?_) | (with_reducible refine below_setRow ?_ ?_ _) | (refine Below.trans ?_ (Below.mono (by assumption) ?_)))); all_goals (first | omega | (simp; done) | (simp; omega)))⟩
set_option maxHeartbeats 4000000 in
theorem specSameSchema_any (a a' : Option Addr) (cap cap' n n' : Nat) (xs ys : List Shp) (w : World) (h : Shs w a xs) (h' : Shs w a' ys) (hx : xs.length = n) (hy : ys.length = n') (hn : n ≤ 1048576) (hn' : n' ≤ 1048576) (hm : fldSum xs ≤ 1048576) (hm' : fldSum ys ≤ 1048576) :
    Calls Try.prog 32 #[.agg #[.slice a n cap], .agg #[.slice a' n' cap']] w fun r w' => r = .returned (.bool (decide (xs = ys))) ∧ Below w.heap.size w w' := by
  have HX := Lib.hid hx; clear hx
  have HY := Lib.hid hy; clear hy
  by_cases hl : n = n'
  · subst hl
    go_enter Try.func32, Try.ntmps32
    go_wp2
    have hbx0 := Lib.hid (box_cells (heap_nth1 w (.cells #[.slice a n cap] 30) (.cells #[.slice a' n cap'] 30)))
    go_loopw [4, 5] (fun t j wr => ∃ k : Nat, k ≤ n ∧ j = .int .i64 k ∧ t = .bool false ∧ Hid (xs.take k = ys.take k) ∧ Below w.heap.size w wr ∧ (∀ i, wr.cell? ⟨w.heap.size, i, none⟩ = (#[.slice a n cap] : Array Value)[i]?) ∧ (∀ i, wr.cell? ⟨w.heap.size + 1, i, none⟩ = (#[.slice a' n cap'] : Array Value)[i]?) ∧ w.heap.size + 1 < wr.heap.size) (fun _ i _ => n - (intOf i).toNat)
    case atStart => exact ⟨0, Nat.zero_le _, rfl, rfl, Lib.hid rfl, by ((repeat (first | (with_reducible exact Below.refl _ _) | (with_reducible assumption) | (with_reducible refine Below.alloc ?_ ?_ _) | (with_reducible refine Below.setCell ?_ ?_ _) | (with_reducible refine Below.drew ?_) | (with_reducible refine below_setRow ?_ ?_ _) | (refine Below.trans ?_ (Below.mono (by assumption) ?_)))); all_goals (first | omega | (simp; done) | (simp; omega))), hbx0.out, box_cells (heap_new1 w _ _), by simp⟩
    case round =>
      obtain ⟨k, hk, rfl, rfl, HT, hb, kA, kB, hzz⟩ := hrel
      have hz := hb.size
      by_cases hlt : k < n
      · obtain ⟨e, he, _⟩ := at_lt (xs := xs) (k := k) (by rw [HX.out]; exact hlt)
        obtain ⟨f, hf, _⟩ := at_lt (xs := ys) (k := k) (by rw [HY.out]; exact hlt)
        have HE := Lib.hid he
        have HF := Lib.hid hf
        have hne := Nat.le_trans (fldSum_ge he) hm
        have hnf := Nat.le_trans (fldSum_ge hf) hm'
        obtain ⟨b, off, a1, cap1, rfl, hlb, c0, c1, hs1⟩ := h.below hb (Nat.le_refl _) k e he
        obtain ⟨b', off', a2, cap2, rfl, hlb', d0, d1, hs2⟩ := h'.below hb (Nat.le_refl _) k f hf
        clear he hf
        have HS1 := Lib.hid hs1; clear hs1
        have HS2 := Lib.hid hs2; clear hs2
        by_cases hid : e.id = f.id
        · by_cases hlen : e.flds.length = f.flds.length
          · have hid' : (e.id != f.id) = false := by simp [hid]
            have hlen' : ((e.flds.length : Int) != (f.flds.length : Int)) = false := by simp [hlen]
            have HID := Lib.hid hid; clear hid
            have HLEN := Lib.hid hlen; clear hlen
            go_wp2
            obtain ⟨wo, rfl⟩ : ∃ wo : World, wo = wr := ⟨_, rfl⟩
            have hbx1 := Lib.hid (box_cells (heap_nth1 wo (.cells #[.int .i64 e.id, .slice a1 e.flds.length cap1] 43) (.cells #[.int .i64 f.id, .slice a2 f.flds.length cap2] 43)))
            have hbx2 := Lib.hid (box_cells (heap_new1 wo (.cells #[.int .i64 e.id, .slice a1 e.flds.length cap1] 43) (.cells #[.int .i64 f.id, .slice a2 f.flds.length cap2] 43)))
            go_loopw [4, 8] (fun t j wr => ∃ q : Nat, q ≤ e.flds.length ∧ j = .int .i64 q ∧ t = .bool false ∧ Hid (e.flds.take q = f.flds.take q) ∧ Below wo.heap.size wo wr ∧ (∀ i, wr.cell? ⟨wo.heap.size, i, none⟩ = (#[.int .i64 e.id, .slice a1 e.flds.length cap1] : Array Value)[i]?) ∧ (∀ i, wr.cell? ⟨wo.heap.size + 1, i, none⟩ = (#[.int .i64 f.id, .slice a2 f.flds.length cap2] : Array Value)[i]?) ∧ wo.heap.size + 1 < wr.heap.size) (fun _ i _ => e.flds.length - (intOf i).toNat)
            case atStart => exact ⟨0, Nat.zero_le _, rfl, rfl, Lib.hid rfl, by ((repeat (first | (with_reducible exact Below.refl _ _) | (with_reducible assumption) | (with_reducible refine Below.alloc ?_ ?_ _) | (with_reducible refine Below.setCell ?_ ?_ _) | (with_reducible refine Below.drew ?_) | (with_reducible refine below_setRow ?_ ?_ _) | (refine Below.trans ?_ (Below.mono (by assumption) ?_)))); all_goals (first | omega | (simp; done) | (simp; omega))), hbx1.out, hbx2.out, by simp⟩
            case round =>
              obtain ⟨q, hq, rfl, rfl, HT1, hb1, kC, kD, hzi⟩ := hrel
              have hzi0 : wo.heap.size < wr.heap.size := by omega
              by_cases hqlt : q < e.flds.length
              · obtain ⟨g, hg, _⟩ := at_lt (xs := e.flds) (k := q) hqlt
                obtain ⟨g', hg', _⟩ := at_lt (xs := f.flds) (k := q) (by rw [← HLEN.out]; exact hqlt)
                have HG := Lib.hid hg
                have HG' := Lib.hid hg'
                have hqlt2 : q < f.flds.length := by rw [← HLEN.out]; exact hqlt
                obtain ⟨p, o, rfl, hp, x0, x1, x2, x3, x4⟩ := Flds.at (Sl.keep HS1.out hb1) hg
                obtain ⟨p', o', rfl, hp', y0, y1, y2, y3, y4⟩ := Flds.at (Sl.keep HS2.out hb1) hg'
                clear hg hg'
                by_cases hgg : g = g'
                · have hd : sameF g g' = true := by simp [sameF, hgg]
                  have HD := Lib.hid hgg; clear hgg
                  have HT2 := Lib.hid (take_same HT1.out HG.out (by rw [HD.out]; exact HG'.out))
                  have hne := run_neq_fld
                  go_wp2_with fail
                  (refine wp_region_ext (by kernel_rfl) (by kernel_rfl) ?_; (repeat (go_big_quiet_step (fail))); refine wpQuiet_nil ?_; intro w1 hb1; obtain ⟨hc1, hf1⟩ := bcell hb1; have hz1 := hb1.size; (try simp only [World.size_alloc, World.size_setCell, World.size_drew] at hz1))
                  go_wp2
                  go_roundw
                  case rel => exact ⟨q + 1, by omega, by go_num, rfl, HT2, by ((repeat (first | (with_reducible exact Below.refl _ _) | (with_reducible assumption) | (with_reducible refine Below.alloc ?_ ?_ _) | (with_reducible refine Below.setCell ?_ ?_ _) | (with_reducible refine Below.drew ?_) | (with_reducible refine below_setRow ?_ ?_ _) | (refine Below.trans ?_ (Below.mono (by assumption) ?_)))); all_goals (first | omega | (simp; done) | (simp; omega))), box_next hb1 (by omega) kC, box_next hb1 (by omega) kD, by omega⟩
                  case measure => simp [intOf]; omega
                · have hd : sameF g g' = false := by simp [sameF, hgg]
                  have HS := Lib.hid (ne_of_at HE.out HF.out (by rintro rfl; exact hgg (by have h1 := HG.out; rw [HG'.out] at h1; simpa using h1.symm)))
                  clear hgg
                  have hne := run_neq_fld
                  go_wp2_with fail
                  (refine wp_region_ext (by kernel_rfl) (by kernel_rfl) ?_; (repeat (go_big_quiet_step (fail))); refine wpQuiet_nil ?_; intro w1 hb1; obtain ⟨hc1, hf1⟩ := bcell hb1; have hz1 := hb1.size; (try simp only [World.size_alloc, World.size_setCell, World.size_drew] at hz1))
                  go_wp2
                  go_ret
                  exact ⟨ret_bool HS.out.symm, by ((repeat (first | (with_reducible exact Below.refl _ _) | (with_reducible assumption) | (with_reducible refine Below.alloc ?_ ?_ _) | (with_reducible refine Below.setCell ?_ ?_ _) | (with_reducible refine Below.drew ?_) | (with_reducible refine below_setRow ?_ ?_ _) | (refine Below.trans ?_ (Below.mono (by assumption) ?_)))); all_goals (first | omega | (simp; done) | (simp; omega)))⟩
              · have HEF := Lib.hid (show e = f by
                  have h1 := HT1.out
                  rw [List.take_of_length_le (by omega), List.take_of_length_le (by have := HLEN.out; omega)] at h1
                  obtain ⟨i, x⟩ := e; obtain ⟨j, y⟩ := f; simp only at h1; have h2 := HID.out; simp only at h2; rw [h1, h2])
                have HT2 := Lib.hid (take_same HT.out HE.out (by rw [HEF.out]; exact HF.out))
                have hzi2 := hb1.size
                go_wp2
                go_roundw
                case rel => exact ⟨k + 1, by omega, by go_num, rfl, HT2, by ((repeat (first | (with_reducible exact Below.refl _ _) | (with_reducible assumption) | (with_reducible refine Below.alloc ?_ ?_ _) | (with_reducible refine Below.setCell ?_ ?_ _) | (with_reducible refine Below.drew ?_) | (with_reducible refine below_setRow ?_ ?_ _) | (refine Below.trans ?_ (Below.mono (by assumption) ?_)))); all_goals (first | omega | (simp; done) | (simp; omega))), box_next hb1 (by omega) kA, box_next hb1 (by omega) kB, by omega⟩
                case measure => simp [intOf]; omega
          · have hid' : (e.id != f.id) = false := by simp [hid]
            have hlen' : ((e.flds.length : Int) != (f.flds.length : Int)) = true := by simp; omega
            have HS := Lib.hid (ne_of_at HE.out HF.out (by rintro rfl; exact hlen rfl))
            clear hid hlen
            go_wp2
            go_ret
            exact ⟨ret_bool HS.out.symm, by ((repeat (first | (with_reducible exact Below.refl _ _) | (with_reducible assumption) | (with_reducible refine Below.alloc ?_ ?_ _) | (with_reducible refine Below.setCell ?_ ?_ _) | (with_reducible refine Below.drew ?_) | (with_reducible refine below_setRow ?_ ?_ _) | (refine Below.trans ?_ (Below.mono (by assumption) ?_)))); all_goals (first | omega | (simp; done) | (simp; omega)))⟩
        · have hid' : (e.id != f.id) = true := by simp [hid]
          have HS := Lib.hid (ne_of_at HE.out HF.out (by rintro rfl; exact hid rfl))
          clear hid
          go_wp2
          go_ret
          exact ⟨ret_bool HS.out.symm, by ((repeat (first | (with_reducible exact Below.refl _ _) | (with_reducible assumption) | (with_reducible refine Below.alloc ?_ ?_ _) | (with_reducible refine Below.setCell ?_ ?_ _) | (with_reducible refine Below.drew ?_) | (with_reducible refine below_setRow ?_ ?_ _) | (refine Below.trans ?_ (Below.mono (by assumption) ?_)))); all_goals (first | omega | (simp; done) | (simp; omega)))⟩
      · have HS := Lib.hid (take_end HT.out (by rw [HX.out]; omega) (by rw [HY.out]; omega))
        go_wp2
        go_ret
        exact ⟨ret_bool HS.out.symm, hb⟩
  · have HS := Lib.hid (show decide (xs = ys) = false by
      simp only [decide_eq_false_iff_not]; intro hxy; subst hxy; exact hl (HX.out.symm.trans HY.out))
    have hl' : ((n : Int) != (n' : Int)) = true := by simp; omega
    go_enter Try.func32, Try.ntmps32
    go_wp2
    go_ret
    exact ⟨ret_bool HS.out.symm, by ((repeat (first | (with_reducible exact Below.refl _ _) | (with_reducible assumption) | (with_reducible refine Below.alloc ?_ ?_ _) | (with_reducible refine Below.setCell ?_ ?_ _) | (with_reducible refine Below.drew ?_) | (with_reducible refine below_setRow ?_ ?_ _) | (refine Below.trans ?_ (Below.mono (by assumption) ?_)))); all_goals (first | omega | (simp; done) | (simp; omega)))⟩
end Go.Proofs.Ytbgejldjgkihaaa

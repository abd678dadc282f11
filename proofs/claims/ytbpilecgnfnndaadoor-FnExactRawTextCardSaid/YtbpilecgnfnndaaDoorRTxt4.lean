/- Texts that RawTextL leans on, part 4. (Put together by wip/tools/bundle.py.) -/
import Derived.Test.YtbpilecgnfnndaaDoorRTxt1
import Derived.Test.YtbpilecgnfnndaaDoorRTxt2
namespace Go.Proofs.YtbpilecgnfnndaaDoor
set_option linter.unusedSimpArgs false
set_option linter.unusedVariables false
open Go.ChangeShapes Go.WideShapes Go.ChangeAt Go.RowKit Go.BigFrame
theorem szRawMsg_any (id : Int) (a : Option Addr) (cap n : Nat) (left : Int) (w : World) (hn : n ≤ maxLen) (h0 : 0 ≤ left) (h1 : left ≤ 1048576) :
    Calls Tryd.prog 44 #[.agg #[.int .i64 id, .slice a n cap], .int .i64 left] w fun r w' => r = .returned (.int .i64 (if left < n then -1 else left - n)) ∧ Below w.heap.size w w' := by
  have hn' := hn
  unfold maxLen at hn'
  by_cases hl : left < n
  · have hq : (if left < n then (-1 : Int) else left - n) = -1 := if_pos hl
    go_enter Tryd.func44, Tryd.ntmps44
    go_wp2_with (first | (go_at_call 59; refine (szRawFieldS_any _ _ _ _ _ hn (by omega) (by omega)).mono ?_; rintro r w1 ⟨rfl, rfl⟩))
    go_ret
    exact ⟨rfl, by ((repeat (first | (with_reducible exact Below.refl _ _) | (with_reducible assumption) | (with_reducible refine Below.alloc ?_ ?_ _) | (with_reducible refine Below.setCell ?_ ?_ _) | (with_reducible refine Below.drew ?_) | (with_reducible refine below_setRow ?_ ?_ _) | (refine Below.trans ?_ (Below.mono (by assumption) ?_)))); all_goals (first | omega | (simp; done) | (simp; omega)))⟩
  · have hq : (if left < n then (-1 : Int) else left - n) = left - n := if_neg hl
    have hq2 : 0 ≤ left - n := by omega
    go_enter Tryd.func44, Tryd.ntmps44
    go_wp2_with (first | (go_at_call 59; refine (szRawFieldS_any _ _ _ _ _ hn (by omega) (by omega)).mono ?_; rintro r w1 ⟨rfl, rfl⟩))
    go_ret
    exact ⟨rfl, by ((repeat (first | (with_reducible exact Below.refl _ _) | (with_reducible assumption) | (with_reducible refine Below.alloc ?_ ?_ _) | (with_reducible refine Below.setCell ?_ ?_ _) | (with_reducible refine Below.drew ?_) | (with_reducible refine below_setRow ?_ ?_ _) | (refine Below.trans ?_ (Below.mono (by assumption) ?_)))); all_goals (first | omega | (simp; done) | (simp; omega)))⟩
set_option maxHeartbeats 2000000 in
theorem szRawMsgS_any (a : Option Addr) (cap n : Nat) (xs : List Shp) (left : Int) (w : World) (h : Shs w a xs) (hok : ∀ e ∈ xs, ShpOk e) (hx : xs.length = n) (hn : n ≤ maxLen) (h0 : 0 ≤ left) (h1 : left ≤ 1048576) :
    Calls Tryd.prog 29 #[.slice a n cap, .int .i64 left] w fun r w' => r = .returned (.int .i64 (szS left xs)) ∧ Below w.heap.size w w' := by
  unfold maxLen at hn
  have HX := Lib.hid hx; clear hx
  by_cases hl : left < n
  · have HS := Lib.hid (show szS left xs = -1 by simp only [szS]; rw [if_pos (by rw [HX.out]; omega)])
    go_enter Tryd.func29, Tryd.ntmps29
    go_wp2
    go_ret
    exact ⟨ret_int HS.out.symm, Below.refl _ _⟩
  · go_enter Tryd.func29, Tryd.ntmps29
    go_wp2
    go_loopw [1, 5] (fun t i wr => ∃ k : Nat, k ≤ n ∧ i = .int .i64 k ∧ (∃ m : Int, 0 ≤ m ∧ m ≤ 1048576 ∧ Hid (m = left - n - fldSum (xs.take k)) ∧ t = .int .i64 m) ∧ Below w.heap.size w wr) (fun _ i _ => n - (intOf i).toNat)
    case atStart => exact ⟨0, Nat.zero_le _, rfl, ⟨_, by omega, by omega, Lib.hid (by simp [fldSum]), rfl⟩, Below.refl _ _⟩
    case round =>
      obtain ⟨k, hk, rfl, ⟨m, hm0, hm1, HM, rfl⟩, hb⟩ := hrel
      by_cases hlt : k < n
      · obtain ⟨e, he, hem⟩ := at_lt (xs := xs) (k := k) (by rw [HX.out]; exact hlt)
        have HE := Lib.hid he
        obtain ⟨b, off, a', cap', rfl, hlb, c0, c1, hfl⟩ := (h.below hb (Nat.le_refl _)) k e he
        have hts := Lib.hid (fldSum_snoc he)
        have htt := Lib.hid (fldSum_take xs (k + 1))
        have HFl := Lib.hid hfl
        clear he hfl
        have hz := hb.size
        by_cases hq : m < e.flds.length
        · have hq' : (if m < e.flds.length then (-1 : Int) else m - e.flds.length) = -1 := if_pos hq
          have HS := Lib.hid (show szS left xs = -1 by simp only [szS]; rw [if_pos (by have := hts.out; have := htt.out; have := HM.out; have := HX.out; omega)])
          go_wp2_with (first
            | (go_at_call 44; refine (szRawMsg_any _ _ _ _ _ _ (hok e hem).n (by omega) (by omega)).mono ?_; rintro r w1 ⟨rfl, hb1⟩; obtain ⟨hc1, hf1⟩ := bcell hb1; have hz1 := hb1.size; (try simp only [World.size_alloc, World.size_setCell, World.size_drew] at hz1)))
          go_ret
          exact ⟨ret_int HS.out.symm, by ((repeat (first | (with_reducible exact Below.refl _ _) | (with_reducible assumption) | (with_reducible refine Below.alloc ?_ ?_ _) | (with_reducible refine Below.setCell ?_ ?_ _) | (with_reducible refine Below.drew ?_) | (with_reducible refine below_setRow ?_ ?_ _) | (refine Below.trans ?_ (Below.mono (by assumption) ?_)))); all_goals (first | omega | (simp; done) | (simp; omega)))⟩
        · have hq' : (if m < e.flds.length then (-1 : Int) else m - e.flds.length) = m - e.flds.length := if_neg hq
          have hq2 : 0 ≤ m - e.flds.length := by omega
          go_wp2_with (first
            | (go_at_call 44; refine (szRawMsg_any _ _ _ _ _ _ (hok e hem).n (by omega) (by omega)).mono ?_; rintro r w1 ⟨rfl, hb1⟩; obtain ⟨hc1, hf1⟩ := bcell hb1; have hz1 := hb1.size; (try simp only [World.size_alloc, World.size_setCell, World.size_drew] at hz1)))
          go_roundw
          case rel => exact ⟨k + 1, by omega, by go_num, ⟨m - e.flds.length, by omega, by omega, Lib.hid (by have := hts.out; have := HM.out; omega), rfl⟩, by ((repeat (first | (with_reducible exact Below.refl _ _) | (with_reducible assumption) | (with_reducible refine Below.alloc ?_ ?_ _) | (with_reducible refine Below.setCell ?_ ?_ _) | (with_reducible refine Below.drew ?_) | (with_reducible refine below_setRow ?_ ?_ _) | (refine Below.trans ?_ (Below.mono (by assumption) ?_)))); all_goals (first | omega | (simp; done) | (simp; omega)))⟩
          case measure => simp [intOf]; omega
      · have HS := Lib.hid (show szS left xs = m by have := HM.out; rw [List.take_of_length_le (by rw [HX.out]; omega)] at this; simp only [szS]; rw [HX.out, if_neg (by omega)]; omega)
        go_wp2
        go_ret
        exact ⟨ret_int HS.out.symm, hb⟩
set_option maxHeartbeats 1000000 in
theorem szRaw_any (a : Option Addr) (cap n : Nat) (xs : List Shp) (left : Int) (w : World) (h : Shs w a xs) (hok : ∀ e ∈ xs, ShpOk e) (hx : xs.length = n) (hn : n ≤ maxLen) (h0 : 0 ≤ left) (h1 : left ≤ 1048576) :
    Calls Tryd.prog 10 #[.agg #[.slice a n cap], .int .i64 left] w fun r w' => r = .returned (.int .i64 (szS left xs)) ∧ Below w.heap.size w w' := by
  have HX := Lib.hid hx; clear hx
  have HSs := Lib.hid h; clear h
  by_cases hl : left < (xs.length : Int) + fldSum xs
  · have hq : szS left xs = -1 := if_pos hl
    go_enter Tryd.func10, Tryd.ntmps10
    go_wp2_with (first | (go_at_call 29; refine (szRawMsgS_any _ _ _ xs _ _ (HSs.out.keep (by ((repeat (first | (with_reducible exact Below.refl _ _) | (with_reducible assumption) | (with_reducible refine Below.alloc ?_ ?_ _) | (with_reducible refine Below.setCell ?_ ?_ _) | (with_reducible refine Below.drew ?_) | (with_reducible refine below_setRow ?_ ?_ _) | (refine Below.trans ?_ (Below.mono (by assumption) ?_)))); all_goals (first | omega | (simp; done) | (simp; omega))))) hok HX.out hn h0 h1).mono ?_; rintro r w1 ⟨rfl, hb1⟩; obtain ⟨hc1, hf1⟩ := bcell hb1; have hz1 := hb1.size; (try simp only [World.size_alloc, World.size_setCell, World.size_drew] at hz1)))
    go_ret
    exact ⟨ret_int hq.symm, by ((repeat (first | (with_reducible exact Below.refl _ _) | (with_reducible assumption) | (with_reducible refine Below.alloc ?_ ?_ _) | (with_reducible refine Below.setCell ?_ ?_ _) | (with_reducible refine Below.drew ?_) | (with_reducible refine below_setRow ?_ ?_ _) | (refine Below.trans ?_ (Below.mono (by assumption) ?_)))); all_goals (first | omega | (simp; done) | (simp; omega)))⟩
  · have hq2 : 0 ≤ szS left xs := by simp only [szS]; rw [if_neg hl]; omega
    go_enter Tryd.func10, Tryd.ntmps10
    go_wp2_with (first | (go_at_call 29; refine (szRawMsgS_any _ _ _ xs _ _ (HSs.out.keep (by ((repeat (first | (with_reducible exact Below.refl _ _) | (with_reducible assumption) | (with_reducible refine Below.alloc ?_ ?_ _) | (with_reducible refine Below.setCell ?_ ?_ _) | (with_reducible refine Below.drew ?_) | (with_reducible refine below_setRow ?_ ?_ _) | (refine Below.trans ?_ (Below.mono (by assumption) ?_)))); all_goals (first | omega | (simp; done) | (simp; omega))))) hok HX.out hn h0 h1).mono ?_; rintro r w1 ⟨rfl, hb1⟩; obtain ⟨hc1, hf1⟩ := bcell hb1; have hz1 := hb1.size; (try simp only [World.size_alloc, World.size_setCell, World.size_drew] at hz1)))
    go_ret
    exact ⟨rfl, by ((repeat (first | (with_reducible exact Below.refl _ _) | (with_reducible assumption) | (with_reducible refine Below.alloc ?_ ?_ _) | (with_reducible refine Below.setCell ?_ ?_ _) | (with_reducible refine Below.drew ?_) | (with_reducible refine below_setRow ?_ ?_ _) | (refine Below.trans ?_ (Below.mono (by assumption) ?_)))); all_goals (first | omega | (simp; done) | (simp; omega)))⟩
set_option maxHeartbeats 2000000 in
theorem toRawMsg_any (id : Int) (a : Option Addr) (cap n : Nat) (xs : List Fld) (w : World) (h : Flds w a xs) (hx : xs.length = n) (hn : n ≤ 1048576) :
    Calls Tryd.prog 46 #[.agg #[.int .i64 id, .slice a n cap]] w (FreshShp w 25 id xs) := by
  subst hx
  have HSs := Lib.hid h; clear h
  go_enter Tryd.func46, Tryd.ntmps46
  go_wp2_with fail
  refine (toRawFieldS_any _ _ _ xs _ (Sl.keep HSs.out (by ((repeat (first | (with_reducible exact Below.refl _ _) | (with_reducible assumption) | (with_reducible refine Below.alloc ?_ ?_ _) | (with_reducible refine Below.setCell ?_ ?_ _) | (with_reducible refine Below.drew ?_) | (with_reducible refine below_setRow ?_ ?_ _) | (refine Below.trans ?_ (Below.mono (by assumption) ?_)))); all_goals (first | omega | (simp; done) | (simp; omega))))) rfl hn).mono ?_
  rintro r w1 ⟨a1, cap1, rfl, ho1, hb1⟩
  obtain ⟨hc1, hf1⟩ := bcell hb1
  have hz1 := hb1.size
  simp only [World.size_alloc, World.size_setCell] at hz1
  have HO := Lib.hid ho1
  clear ho1
  go_wp2
  refine bodyPost_ret (v := .agg #[.int .i64 id, .slice a1 xs.length cap1]) (by simp [results, Tryd.results46, go_sem, hc1]) rfl ⟨a1, cap1, rfl, ?_, by ((repeat (first | (with_reducible exact Below.refl _ _) | (with_reducible assumption) | (with_reducible refine Below.alloc ?_ ?_ _) | (with_reducible refine Below.setCell ?_ ?_ _) | (with_reducible refine Below.drew ?_) | (with_reducible refine below_setRow ?_ ?_ _) | (refine Below.trans ?_ (Below.mono (by assumption) ?_)))); all_goals (first | omega | (simp; done) | (simp; omega)))⟩
  ((first | refine owns_le (base := ?_) ?_ ?_ | refine OwnShs.le (base := ?_) ?_ ?_); rotate_left; (repeat (first | (refine owns_set ?_ ?_ _) | (refine OwnShs.set ?_ ?_ _) | exact HO.out)); all_goals (first | omega | (simp; done) | (simp; omega)))
theorem info_RawMsg : (Tryd.prog.info? 56).map (fun i => (i.zero, i.size, i.bytes)) = some (some (.agg #[.int .i64 0, .slice none 0 0]), 2, 32) := by kernel_rfl
set_option maxRecDepth 100000 in
set_option maxHeartbeats 2000000 in
theorem toRawMsgS_any (a : Option Addr) (cap n : Nat) (xs : List Shp) (w : World) (h : Shs w a xs) (hx : xs.length = n) (hn : n ≤ 1048576) (hm : fldSum xs ≤ 1048576) :
    Calls Tryd.prog 32 #[.slice a n cap] w (FreshShs w 56 25 n xs) := by
  have HX := Lib.hid hx; clear hx
  obtain ⟨i0, hi, hz0, hz1, hz2⟩ := info_parts info_RawMsg
  go_enter Tryd.func32, Tryd.ntmps32
  go_wp2_with (first | (at_make; refine wpList_make_full _ rfl _ _ 33 rfl w.heap.size 56 i0 _ 2 Tryd.underlying33 hi hz0 hz1 .i64 .i64 _ _ n rfl rfl rfl rfl (by rw [hz2]; omega) (by unfold maxLen; omega) (Nat.le_refl _) ?_; intro w1 hown hgrow))
  have hb0 : Below w.heap.size w w1 := (Below.refl _ _).grown hgrow (Nat.le_refl _) (by simp)
  clear hgrow
  go_loopw [4] (fun i wr => ∃ k : Nat, k ≤ n ∧ i = .int .i64 k ∧ (∃ L rs, Filling wr w.heap.size 56 25 (.slice (some ⟨w.heap.size, 0, none⟩) n n) n k L rs xs) ∧ Below w.heap.size w wr) (fun i _ => n - (intOf i).toNat)
  case atStart => exact ⟨0, Nat.zero_le _, rfl, ⟨_, [], rfl, hown, by simp, fun i r x hr => by simp at hr, Apart.nil, fun i r hr => by simp at hr⟩, hb0⟩
  case round =>
    obtain ⟨k, hk, rfl, ⟨L, rs, ho⟩, hb⟩ := hrel
    have HO := Lib.hid ho; clear ho
    have hz := hb.size
    by_cases hlt : k < n
    · obtain ⟨e, he, _⟩ := at_lt (xs := xs) (k := k) (by rw [HX.out]; exact hlt)
      have HE := Lib.hid he
      have hfe := Nat.le_trans (fldSum_ge he) hm
      obtain ⟨b, off, a', cap', rfl, hlb, c0, c1, hfl⟩ := (h.below hb (Nat.le_refl _)) k e he
      have HFl := Lib.hid hfl
      clear he hfl
      have hown1 := Lib.hid hown
      clear hown
      obtain ⟨u0, d0⟩ := owns_some HO.out.outer (k * 2) (by omega)
      obtain ⟨u1, d1⟩ := owns_some HO.out.outer (k * 2 + 1) (by omega)
      have hfz : ∀ j, wr.frozen? ⟨w.heap.size, j, none⟩ = false := HO.out.outer.frozenAt
      have hwr : w.heap.size < wr.heap.size := World.block_lt_of_cell? _ _ d0
      go_wp2_with fail
      refine (toRawMsg_any _ _ _ _ e.flds _ (Sl.keep HFl.out (by ((repeat (first | (with_reducible exact Below.refl _ _) | (with_reducible assumption) | (with_reducible refine Below.alloc ?_ ?_ _) | (with_reducible refine Below.setCell ?_ ?_ _) | (with_reducible refine Below.drew ?_) | (with_reducible refine below_setRow ?_ ?_ _) | (refine Below.trans ?_ (Below.mono (by assumption) ?_)))); all_goals (first | omega | (simp; done) | (simp; omega))))) rfl hfe).mono ?_
      rintro r w2 ⟨a2, cap2, rfl, ho2, hb2⟩
      obtain ⟨hc2, hf2⟩ := bcell hb2
      have hz2' := hb2.size
      try simp only [World.size_alloc, World.size_setCell] at hz2'
      have HO2 := Lib.hid ho2; clear ho2
      go_wp2
      go_roundw
      case rel => exact ⟨k + 1, by omega, by go_num, HO.out.step hb2 (by decide) hb.size HE.out hlt HO2.out, by ((repeat (first | (with_reducible exact Below.refl _ _) | (with_reducible assumption) | (with_reducible refine Below.alloc ?_ ?_ _) | (with_reducible refine Below.setCell ?_ ?_ _) | (with_reducible refine Below.drew ?_) | (with_reducible refine below_setRow ?_ ?_ _) | (refine Below.trans ?_ (Below.mono (by assumption) ?_)))); all_goals (first | omega | (simp; done) | (simp; omega)))⟩
      case measure => simp [intOf]; omega
    · obtain rfl : k = n := by omega
      go_wp2
      go_ret
      exact ⟨_, _, _, rfl, HO.out.own HX.out, hb⟩
set_option maxHeartbeats 2000000 in
theorem toRaw_any (a : Option Addr) (cap n : Nat) (xs : List Shp) (w : World) (h : Shs w a xs) (hx : xs.length = n) (hn : n ≤ 1048576) (hm : fldSum xs ≤ 1048576) :
    Calls Tryd.prog 12 #[.agg #[.slice a n cap]] w (FreshSch w 56 25 n xs) := by
  have HX := Lib.hid hx; clear hx
  have HSs := Lib.hid h; clear h
  go_enter Tryd.func12, Tryd.ntmps12
  go_wp2_with fail
  refine (toRawMsgS_any _ _ _ xs _ (HSs.out.keep (by ((repeat (first | (with_reducible exact Below.refl _ _) | (with_reducible assumption) | (with_reducible refine Below.alloc ?_ ?_ _) | (with_reducible refine Below.setCell ?_ ?_ _) | (with_reducible refine Below.drew ?_) | (with_reducible refine below_setRow ?_ ?_ _) | (refine Below.trans ?_ (Below.mono (by assumption) ?_)))); all_goals (first | omega | (simp; done) | (simp; omega))))) HX.out hn hm).mono ?_
  rintro r w1 ⟨a1, cap1, rs1, rfl, ho1, hb1⟩
  obtain ⟨hc1, hf1⟩ := bcell hb1
  have hz1 := hb1.size
  simp only [World.size_alloc, World.size_setCell] at hz1
  have HO := Lib.hid ho1
  clear ho1
  go_wp2
  refine bodyPost_ret (v := .agg #[.slice a1 n cap1]) (by simp [results, Tryd.results12, go_sem, hc1]) rfl ⟨a1, cap1, rs1, rfl, ?_, by ((repeat (first | (with_reducible exact Below.refl _ _) | (with_reducible assumption) | (with_reducible refine Below.alloc ?_ ?_ _) | (with_reducible refine Below.setCell ?_ ?_ _) | (with_reducible refine Below.drew ?_) | (with_reducible refine below_setRow ?_ ?_ _) | (refine Below.trans ?_ (Below.mono (by assumption) ?_)))); all_goals (first | omega | (simp; done) | (simp; omega)))⟩
  ((first | refine owns_le (base := ?_) ?_ ?_ | refine OwnShs.le (base := ?_) ?_ ?_); rotate_left; (repeat (first | (refine owns_set ?_ ?_ _) | (refine OwnShs.set ?_ ?_ _) | exact HO.out)); all_goals (first | omega | (simp; done) | (simp; omega)))
set_option maxHeartbeats 2000000 in
theorem eqRawMsg_same (id : Int) (fs : List Fld) (n : Nat) (a a' : Option Addr) (cap cap' : Nat) (w : World) (h : Flds w a fs) (h' : Flds w a' fs) (hx : fs.length = n) (hn : n ≤ 1048576) :
    Calls Tryd.prog 51 #[.agg #[.int .i64 id, .slice a n cap], .agg #[.int .i64 id, .slice a' n cap']] w fun r w' => r = .returned (.bool true) ∧ Below w.heap.size w w' := by
  have HX := Lib.hid hx; clear hx
  have HS1 := Lib.hid h; clear h
  have HS2 := Lib.hid h'; clear h'
  go_enter Tryd.func51, Tryd.ntmps51
  go_wp2_with fail
  refine (eqRawFieldS_any _ _ _ _ _ _ fs fs _ (Sl.keep HS1.out (by ((repeat (first | (with_reducible exact Below.refl _ _) | (with_reducible assumption) | (with_reducible refine Below.alloc ?_ ?_ _) | (with_reducible refine Below.setCell ?_ ?_ _) | (with_reducible refine Below.drew ?_) | (with_reducible refine below_setRow ?_ ?_ _) | (refine Below.trans ?_ (Below.mono (by assumption) ?_)))); all_goals (first | omega | (simp; done) | (simp; omega))))) (Sl.keep HS2.out (by ((repeat (first | (with_reducible exact Below.refl _ _) | (with_reducible assumption) | (with_reducible refine Below.alloc ?_ ?_ _) | (with_reducible refine Below.setCell ?_ ?_ _) | (with_reducible refine Below.drew ?_) | (with_reducible refine below_setRow ?_ ?_ _) | (refine Below.trans ?_ (Below.mono (by assumption) ?_)))); all_goals (first | omega | (simp; done) | (simp; omega))))) HX.out HX.out hn hn).mono ?_
  rintro r w1 ⟨rfl, hb1⟩
  go_wp2
  go_ret
  exact ⟨rfl, by ((repeat (first | (with_reducible exact Below.refl _ _) | (with_reducible assumption) | (with_reducible refine Below.alloc ?_ ?_ _) | (with_reducible refine Below.setCell ?_ ?_ _) | (with_reducible refine Below.drew ?_) | (with_reducible refine below_setRow ?_ ?_ _) | (refine Below.trans ?_ (Below.mono (by assumption) ?_)))); all_goals (first | omega | (simp; done) | (simp; omega)))⟩
set_option maxHeartbeats 2000000 in
theorem eqRawMsgS_same (a a' : Option Addr) (cap cap' n : Nat) (xs : List Shp) (w : World) (h : Shs w a xs) (h' : Shs w a' xs) (hx : xs.length = n) (hn : n ≤ 1048576) (hm : fldSum xs ≤ 1048576) :
    Calls Tryd.prog 35 #[.slice a n cap, .slice a' n cap'] w fun r w' => r = .returned (.bool true) ∧ Below w.heap.size w w' := by
  have HX := Lib.hid hx; clear hx
  go_enter Tryd.func35, Tryd.ntmps35
  go_wp2
  go_loopw [4, 5] (fun t i wr => ∃ k : Nat, k ≤ n ∧ i = .int .i64 k ∧ t = .bool false ∧ Below w.heap.size w wr) (fun _ i _ => n - (intOf i).toNat)
  case atStart => exact ⟨0, Nat.zero_le _, rfl, rfl, Below.refl _ _⟩
  case round =>
    obtain ⟨k, hk, rfl, rfl, hb⟩ := hrel
    have hz := hb.size
    by_cases hlt : k < n
    · obtain ⟨e, he, _⟩ := at_lt (xs := xs) (k := k) (by rw [HX.out]; exact hlt)
      have HE := Lib.hid he
      have hne := Nat.le_trans (fldSum_ge he) hm
      obtain ⟨b, off, a1, cap1, rfl, hlb, c0, c1, hs1⟩ := h.below hb (Nat.le_refl _) k e he
      obtain ⟨b', off', a2, cap2, rfl, hlb', d0, d1, hs2⟩ := h'.below hb (Nat.le_refl _) k e he
      clear he
      have HS1 := Lib.hid hs1; clear hs1
      have HS2 := Lib.hid hs2; clear hs2
      go_wp2_with fail
      (refine wp_region_ext (by kernel_rfl) (by kernel_rfl) ?_; (repeat (go_big_quiet_step (first | (go_at_call 51; refine Calls.ext_of (eqRawMsg_same _ _ _ _ _ _ _ _ (Sl.keep HS1.out (World.ext_below _ _)) (Sl.keep HS2.out (World.ext_below _ _)) rfl hne))))); refine wpQuiet_nil ?_; intro w1 hb1; obtain ⟨hc1, hf1⟩ := bcell hb1; have hz1 := hb1.size; (try simp only [World.size_alloc, World.size_setCell, World.size_drew] at hz1))
      go_wp2
      go_roundw
      case rel => exact ⟨k + 1, by omega, by go_num, rfl, by ((repeat (first | (with_reducible exact Below.refl _ _) | (with_reducible assumption) | (with_reducible refine Below.alloc ?_ ?_ _) | (with_reducible refine Below.setCell ?_ ?_ _) | (with_reducible refine Below.drew ?_) | (with_reducible refine below_setRow ?_ ?_ _) | (refine Below.trans ?_ (Below.mono (by assumption) ?_)))); all_goals (first | omega | (simp; done) | (simp; omega)))⟩
      case measure => simp [intOf]; omega
    · go_wp2
      go_ret
      exact ⟨rfl, hb⟩
set_option maxHeartbeats 2000000 in
theorem eqRaw_same (a a' : Option Addr) (cap cap' n : Nat) (xs : List Shp) (w : World) (h : Shs w a xs) (h' : Shs w a' xs) (hx : xs.length = n) (hn : n ≤ 1048576) (hm : fldSum xs ≤ 1048576) :
    Calls Tryd.prog 14 #[.agg #[.slice a n cap], .agg #[.slice a' n cap']] w fun r w' => r = .returned (.bool true) ∧ Below w.heap.size w w' := by
  have HX := Lib.hid hx; clear hx
  have HS1 := Lib.hid h; clear h
  have HS2 := Lib.hid h'; clear h'
  go_enter Tryd.func14, Tryd.ntmps14
  go_wp2_with fail
  refine (eqRawMsgS_same _ _ _ _ _ xs _ (HS1.out.keep (by ((repeat (first | (with_reducible exact Below.refl _ _) | (with_reducible assumption) | (with_reducible refine Below.alloc ?_ ?_ _) | (with_reducible refine Below.setCell ?_ ?_ _) | (with_reducible refine Below.drew ?_) | (with_reducible refine below_setRow ?_ ?_ _) | (refine Below.trans ?_ (Below.mono (by assumption) ?_)))); all_goals (first | omega | (simp; done) | (simp; omega))))) (HS2.out.keep (by ((repeat (first | (with_reducible exact Below.refl _ _) | (with_reducible assumption) | (with_reducible refine Below.alloc ?_ ?_ _) | (with_reducible refine Below.setCell ?_ ?_ _) | (with_reducible refine Below.drew ?_) | (with_reducible refine below_setRow ?_ ?_ _) | (refine Below.trans ?_ (Below.mono (by assumption) ?_)))); all_goals (first | omega | (simp; done) | (simp; omega))))) HX.out hn hm).mono ?_
  rintro r w1 ⟨rfl, hb1⟩
  go_wp2
  go_ret
  exact ⟨rfl, by ((repeat (first | (with_reducible exact Below.refl _ _) | (with_reducible assumption) | (with_reducible refine Below.alloc ?_ ?_ _) | (with_reducible refine Below.setCell ?_ ?_ _) | (with_reducible refine Below.drew ?_) | (with_reducible refine below_setRow ?_ ?_ _) | (refine Below.trans ?_ (Below.mono (by assumption) ?_)))); all_goals (first | omega | (simp; done) | (simp; omega)))⟩
section
variable {H : Type} {enc : TypeId × Value → H} {W : World} {base : Nat} {sp : Nat → Bool} {v : Value} {d : DataW H} {ps : List MemPlace}
theorem flat_raw : flat Tryd.prog 9 30 = some [.sl shpCK] := by kernel_rfl
theorem cells_raw : Tryd.prog.cellsOf 30 = 1 := by kernel_rfl
set_option maxRecDepth 100000 in
theorem openRaw (hv : Value.okWide Tryd.prog W .any base 30 v) (h : DataW.Trod enc Tryd.prog W 0 sp true 30 v d ps) : ∃ x : ShArg, v = .agg #[x.sl] ∧ x.ok W := by
  obtain ⟨cs, rfl, hsz⟩ := agg_of_okWide Tryd.underlying30 hv
  obtain ⟨x, hx, hk⟩ := flat_trod flat_raw cells_raw h 0 _ rfl
  obtain ⟨y, rfl, hy⟩ := shs_open (hk 3)
  refine ⟨y, ?_, hy⟩
  obtain ⟨l⟩ := cs
  rw [cells_raw] at hsz
  match l, hsz with
  | [c], _ => simp [Value.cells] at hx; rw [hx]
end
end Go.Proofs.YtbpilecgnfnndaaDoor

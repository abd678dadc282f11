/- Texts that CompL leans on, part 6. (Put together by wip/tools/bundle.py.) -/
import Derived.Test.YtbpilecgnfnndaaComp1
import Derived.Test.YtbpilecgnfnndaaComp2
namespace Go.Proofs.Ytbpilecgnfnndaa
set_option linter.unusedSimpArgs false
set_option linter.unusedVariables false
open Go.ChangeShapes Go.WideShapes Go.ChangeAt Go.RowKit Go.BigFrame
theorem szRawMsg_any (id : Int) (a : Option Addr) (cap n : Nat) (left : Int) (w : World) (hn : n ≤ maxLen) (h0 : 0 ≤ left) (h1 : left ≤ 1048576) :
    Calls Try.prog 81 #[.agg #[.int .i64 id, .slice a n cap], .int .i64 left] w fun r w' => r = .returned (.int .i64 (if left < n then -1 else left - n)) ∧ Below w.heap.size w w' := by
  have hn' := hn
  unfold maxLen at hn'
  by_cases hl : left < n
  · have hq : (if left < n then (-1 : Int) else left - n) = -1 := if_pos hl
    go_enter Try.func81, Try.ntmps81
    go_wp2_with (first | (go_at_call 113; refine (szRawFieldS_any _ _ _ _ _ hn (by omega) (by omega)).mono ?_; rintro r w1 ⟨rfl, rfl⟩))
    go_ret
    exact ⟨rfl, by ((repeat (first | (with_reducible exact Below.refl _ _) | (with_reducible assumption) | (with_reducible refine Below.alloc ?_ ?_ _) | (with_reducible refine Below.setCell ?_ ?_ _) | (with_reducible refine Below.drew ?_) | (with_reducible refine below_setRow ?_ ?_ _) | (refine Below.trans ?_ (Below.mono (by assumption) ?_)))); all_goals (first | omega | (simp; done) | (simp; omega)))⟩
  · have hq : (if left < n then (-1 : Int) else left - n) = left - n := if_neg hl
    have hq2 : 0 ≤ left - n := by omega
    go_enter Try.func81, Try.ntmps81
    go_wp2_with (first | (go_at_call 113; refine (szRawFieldS_any _ _ _ _ _ hn (by omega) (by omega)).mono ?_; rintro r w1 ⟨rfl, rfl⟩))
    go_ret
    exact ⟨rfl, by ((repeat (first | (with_reducible exact Below.refl _ _) | (with_reducible assumption) | (with_reducible refine Below.alloc ?_ ?_ _) | (with_reducible refine Below.setCell ?_ ?_ _) | (with_reducible refine Below.drew ?_) | (with_reducible refine below_setRow ?_ ?_ _) | (refine Below.trans ?_ (Below.mono (by assumption) ?_)))); all_goals (first | omega | (simp; done) | (simp; omega)))⟩
set_option maxHeartbeats 2000000 in
theorem szRawMsgS_any (a : Option Addr) (cap n : Nat) (xs : List Shp) (left : Int) (w : World) (h : Shs w a xs) (hok : ∀ e ∈ xs, ShpOk e) (hx : xs.length = n) (hn : n ≤ maxLen) (h0 : 0 ≤ left) (h1 : left ≤ 1048576) :
    Calls Try.prog 53 #[.slice a n cap, .int .i64 left] w fun r w' => r = .returned (.int .i64 (szS left xs)) ∧ Below w.heap.size w w' := by
  unfold maxLen at hn
  have HX := Lib.hid hx; clear hx
  by_cases hl : left < n
  · have HS := Lib.hid (show szS left xs = -1 by simp only [szS]; rw [if_pos (by rw [HX.out]; omega)])
    go_enter Try.func53, Try.ntmps53
    go_wp2
    go_ret
    exact ⟨ret_int HS.out.symm, Below.refl _ _⟩
  · go_enter Try.func53, Try.ntmps53
    go_wp2
    go_loopw [1, 5] (fun t i wr => ∃ k : Nat, k ≤ n ∧ i = .int .i64 k ∧ (∃ m : Int, 0 ≤ m ∧ m ≤ 1048576 ∧ Hid (m = left - n - fldSum (xs.take k)) ∧ t = .int .i64 m) ∧ Below w.heap.size w wr) (fun _ i _ => n - (intOf i).toNat)
    case atStart => exact ⟨0, Nat.zero_le _, rfl, ⟨_, by omega, by omega, Lib.hid (by simp [fldSum]), rfl⟩, Below.refl _ _⟩
    case round =>
      obtain ⟨k, hk, rfl, ⟨m, hm0, hm1, HM, rfl⟩, hb⟩ := hrel
      by_cases hlt : k < n
      · obtain ⟨e, he, hem⟩ := at_lt (xs := xs) (k := k) (by rw [HX.out]; exact hlt)
        have HE := Lib.hid he
        obtain ⟨b, off, a', cap', rfl, hlb, c0, c1, hfl⟩ := (h.below hb (Nat.le_refl _)) k e he
        have hts := Lib.hid (fldSum_snoc he)
        have htt := Lib.hid (fldSum_take xs (k + 1))
        have HFl := Lib.hid hfl
        clear he hfl
        have hz := hb.size
        by_cases hq : m < e.flds.length
        · have hq' : (if m < e.flds.length then (-1 : Int) else m - e.flds.length) = -1 := if_pos hq
          have HS := Lib.hid (show szS left xs = -1 by simp only [szS]; rw [if_pos (by have := hts.out; have := htt.out; have := HM.out; have := HX.out; omega)])
          go_wp2_with (first
            | (go_at_call 81; refine (szRawMsg_any _ _ _ _ _ _ (hok e hem).n (by omega) (by omega)).mono ?_; rintro r w1 ⟨rfl, hb1⟩; obtain ⟨hc1, hf1⟩ := bcell hb1; have hz1 := hb1.size; (try simp only [World.size_alloc, World.size_setCell, World.size_drew] at hz1)))
          go_ret
          exact ⟨ret_int HS.out.symm, by ((repeat (first | (with_reducible exact Below.refl _ _) | (with_reducible assumption) | (with_reducible refine Below.alloc ?_ ?_ _) | (with_reducible refine Below.setCell ?_ ?_ _) | (with_reducible refine Below.drew ?_) | (with_reducible refine below_setRow ?_ ?_ _) | (refine Below.trans ?_ (Below.mono (by assumption) ?_)))); all_goals (first | omega | (simp; done) | (simp; omega)))⟩
        · have hq' : (if m < e.flds.length then (-1 : Int) else m - e.flds.length) = m - e.flds.length := if_neg hq
          have hq2 : 0 ≤ m - e.flds.length := by omega
          go_wp2_with (first
            | (go_at_call 81; refine (szRawMsg_any _ _ _ _ _ _ (hok e hem).n (by omega) (by omega)).mono ?_; rintro r w1 ⟨rfl, hb1⟩; obtain ⟨hc1, hf1⟩ := bcell hb1; have hz1 := hb1.size; (try simp only [World.size_alloc, World.size_setCell, World.size_drew] at hz1)))
          go_roundw
          case rel => exact ⟨k + 1, by omega, by go_num, ⟨m - e.flds.length, by omega, by omega, Lib.hid (by have := hts.out; have := HM.out; omega), rfl⟩, by ((repeat (first | (with_reducible exact Below.refl _ _) | (with_reducible assumption) | (with_reducible refine Below.alloc ?_ ?_ _) | (with_reducible refine Below.setCell ?_ ?_ _) | (with_reducible refine Below.drew ?_) | (with_reducible refine below_setRow ?_ ?_ _) | (refine Below.trans ?_ (Below.mono (by assumption) ?_)))); all_goals (first | omega | (simp; done) | (simp; omega)))⟩
          case measure => simp [intOf]; omega
      · have HS := Lib.hid (show szS left xs = m by have := HM.out; rw [List.take_of_length_le (by rw [HX.out]; omega)] at this; simp only [szS]; rw [HX.out, if_neg (by omega)]; omega)
        go_wp2
        go_ret
        exact ⟨ret_int HS.out.symm, hb⟩
set_option maxHeartbeats 1000000 in
theorem szRaw_any (a : Option Addr) (cap n : Nat) (xs : List Shp) (left : Int) (w : World) (h : Shs w a xs) (hok : ∀ e ∈ xs, ShpOk e) (hx : xs.length = n) (hn : n ≤ maxLen) (h0 : 0 ≤ left) (h1 : left ≤ 1048576) :
    Calls Try.prog 21 #[.agg #[.slice a n cap], .int .i64 left] w fun r w' => r = .returned (.int .i64 (szS left xs)) ∧ Below w.heap.size w w' := by
  have HX := Lib.hid hx; clear hx
  have HSs := Lib.hid h; clear h
  by_cases hl : left < (xs.length : Int) + fldSum xs
  · have hq : szS left xs = -1 := if_pos hl
    go_enter Try.func21, Try.ntmps21
    go_wp2_with (first | (go_at_call 53; refine (szRawMsgS_any _ _ _ xs _ _ (HSs.out.keep (by ((repeat (first | (with_reducible exact Below.refl _ _) | (with_reducible assumption) | (with_reducible refine Below.alloc ?_ ?_ _) | (with_reducible refine Below.setCell ?_ ?_ _) | (with_reducible refine Below.drew ?_) | (with_reducible refine below_setRow ?_ ?_ _) | (refine Below.trans ?_ (Below.mono (by assumption) ?_)))); all_goals (first | omega | (simp; done) | (simp; omega))))) hok HX.out hn h0 h1).mono ?_; rintro r w1 ⟨rfl, hb1⟩; obtain ⟨hc1, hf1⟩ := bcell hb1; have hz1 := hb1.size; (try simp only [World.size_alloc, World.size_setCell, World.size_drew] at hz1)))
    go_ret
    exact ⟨ret_int hq.symm, by ((repeat (first | (with_reducible exact Below.refl _ _) | (with_reducible assumption) | (with_reducible refine Below.alloc ?_ ?_ _) | (with_reducible refine Below.setCell ?_ ?_ _) | (with_reducible refine Below.drew ?_) | (with_reducible refine below_setRow ?_ ?_ _) | (refine Below.trans ?_ (Below.mono (by assumption) ?_)))); all_goals (first | omega | (simp; done) | (simp; omega)))⟩
  · have hq2 : 0 ≤ szS left xs := by simp only [szS]; rw [if_neg hl]; omega
    go_enter Try.func21, Try.ntmps21
    go_wp2_with (first | (go_at_call 53; refine (szRawMsgS_any _ _ _ xs _ _ (HSs.out.keep (by ((repeat (first | (with_reducible exact Below.refl _ _) | (with_reducible assumption) | (with_reducible refine Below.alloc ?_ ?_ _) | (with_reducible refine Below.setCell ?_ ?_ _) | (with_reducible refine Below.drew ?_) | (with_reducible refine below_setRow ?_ ?_ _) | (refine Below.trans ?_ (Below.mono (by assumption) ?_)))); all_goals (first | omega | (simp; done) | (simp; omega))))) hok HX.out hn h0 h1).mono ?_; rintro r w1 ⟨rfl, hb1⟩; obtain ⟨hc1, hf1⟩ := bcell hb1; have hz1 := hb1.size; (try simp only [World.size_alloc, World.size_setCell, World.size_drew] at hz1)))
    go_ret
    exact ⟨rfl, by ((repeat (first | (with_reducible exact Below.refl _ _) | (with_reducible assumption) | (with_reducible refine Below.alloc ?_ ?_ _) | (with_reducible refine Below.setCell ?_ ?_ _) | (with_reducible refine Below.drew ?_) | (with_reducible refine below_setRow ?_ ?_ _) | (refine Below.trans ?_ (Below.mono (by assumption) ?_)))); all_goals (first | omega | (simp; done) | (simp; omega)))⟩
set_option maxHeartbeats 2000000 in
theorem toRawMsg_any (id : Int) (a : Option Addr) (cap n : Nat) (xs : List Fld) (w : World) (h : Flds w a xs) (hx : xs.length = n) (hn : n ≤ 1048576) :
    Calls Try.prog 82 #[.agg #[.int .i64 id, .slice a n cap]] w (FreshShp w 45 id xs) := by
  subst hx
  have HSs := Lib.hid h; clear h
  go_enter Try.func82, Try.ntmps82
  go_wp2_with fail
  refine (toRawFieldS_any _ _ _ xs _ (Sl.keep HSs.out (by ((repeat (first | (with_reducible exact Below.refl _ _) | (with_reducible assumption) | (with_reducible refine Below.alloc ?_ ?_ _) | (with_reducible refine Below.setCell ?_ ?_ _) | (with_reducible refine Below.drew ?_) | (with_reducible refine below_setRow ?_ ?_ _) | (refine Below.trans ?_ (Below.mono (by assumption) ?_)))); all_goals (first | omega | (simp; done) | (simp; omega))))) rfl hn).mono ?_
  rintro r w1 ⟨a1, cap1, rfl, ho1, hb1⟩
  obtain ⟨hc1, hf1⟩ := bcell hb1
  have hz1 := hb1.size
  simp only [World.size_alloc, World.size_setCell] at hz1
  have HO := Lib.hid ho1
  clear ho1
  go_wp2
  refine bodyPost_ret (v := .agg #[.int .i64 id, .slice a1 xs.length cap1]) (by simp [results, Try.results82, go_sem, hc1]) rfl ⟨a1, cap1, rfl, ?_, by ((repeat (first | (with_reducible exact Below.refl _ _) | (with_reducible assumption) | (with_reducible refine Below.alloc ?_ ?_ _) | (with_reducible refine Below.setCell ?_ ?_ _) | (with_reducible refine Below.drew ?_) | (with_reducible refine below_setRow ?_ ?_ _) | (refine Below.trans ?_ (Below.mono (by assumption) ?_)))); all_goals (first | omega | (simp; done) | (simp; omega)))⟩
  ((first | refine owns_le (base := ?_) ?_ ?_ | refine OwnShs.le (base := ?_) ?_ ?_); rotate_left; (repeat (first | (refine owns_set ?_ ?_ _) | (refine OwnShs.set ?_ ?_ _) | exact HO.out)); all_goals (first | omega | (simp; done) | (simp; omega)))
theorem info_RawMsg : (Try.prog.info? 40).map (fun i => (i.zero, i.size, i.bytes)) = some (some (.agg #[.int .i64 0, .slice none 0 0]), 2, 32) := by kernel_rfl
set_option maxRecDepth 100000 in
set_option maxHeartbeats 2000000 in
theorem toRawMsgS_any (a : Option Addr) (cap n : Nat) (xs : List Shp) (w : World) (h : Shs w a xs) (hx : xs.length = n) (hn : n ≤ 1048576) (hm : fldSum xs ≤ 1048576) :
    Calls Try.prog 56 #[.slice a n cap] w (FreshShs w 40 45 n xs) := by
  have HX := Lib.hid hx; clear hx
  obtain ⟨i0, hi, hz0, hz1, hz2⟩ := info_parts info_RawMsg
  go_enter Try.func56, Try.ntmps56
  go_wp2_with (first | (at_make; refine wpList_make_full _ rfl _ _ 24 rfl w.heap.size 40 i0 _ 2 Try.underlying24 hi hz0 hz1 .i64 .i64 _ _ n rfl rfl rfl rfl (by rw [hz2]; omega) (by unfold maxLen; omega) (Nat.le_refl _) ?_; intro w1 hown hgrow))
  have hb0 : Below w.heap.size w w1 := (Below.refl _ _).grown hgrow (Nat.le_refl _) (by simp)
  clear hgrow
  go_loopw [4] (fun i wr => ∃ k : Nat, k ≤ n ∧ i = .int .i64 k ∧ (∃ L rs, Filling wr w.heap.size 40 45 (.slice (some ⟨w.heap.size, 0, none⟩) n n) n k L rs xs) ∧ Below w.heap.size w wr) (fun i _ => n - (intOf i).toNat)
  case atStart => exact ⟨0, Nat.zero_le _, rfl, ⟨_, [], rfl, hown, by simp, fun i r x hr => by simp at hr, Apart.nil, fun i r hr => by simp at hr⟩, hb0⟩
  case round =>
    obtain ⟨k, hk, rfl, ⟨L, rs, ho⟩, hb⟩ := hrel
    have HO := Lib.hid ho; clear ho
    have hz := hb.size
    by_cases hlt : k < n
    · obtain ⟨e, he, _⟩ := at_lt (xs := xs) (k := k) (by rw [HX.out]; exact hlt)
      have HE := Lib.hid he
      have hfe := Nat.le_trans (fldSum_ge he) hm
      obtain ⟨b, off, a', cap', rfl, hlb, c0, c1, hfl⟩ := (h.below hb (Nat.le_refl _)) k e he
      have HFl := Lib.hid hfl
      clear he hfl
      have hown1 := Lib.hid hown
      clear hown
      obtain ⟨u0, d0⟩ := owns_some HO.out.outer (k * 2) (by omega)
      obtain ⟨u1, d1⟩ := owns_some HO.out.outer (k * 2 + 1) (by omega)
      have hfz : ∀ j, wr.frozen? ⟨w.heap.size, j, none⟩ = false := HO.out.outer.frozenAt
      have hwr : w.heap.size < wr.heap.size := World.block_lt_of_cell? _ _ d0
      go_wp2_with fail
      refine (toRawMsg_any _ _ _ _ e.flds _ (Sl.keep HFl.out (by ((repeat (first | (with_reducible exact Below.refl _ _) | (with_reducible assumption) | (with_reducible refine Below.alloc ?_ ?_ _) | (with_reducible refine Below.setCell ?_ ?_ _) | (with_reducible refine Below.drew ?_) | (with_reducible refine below_setRow ?_ ?_ _) | (refine Below.trans ?_ (Below.mono (by assumption) ?_)))); all_goals (first | omega | (simp; done) | (simp; omega))))) rfl hfe).mono ?_
      rintro r w2 ⟨a2, cap2, rfl, ho2, hb2⟩
      obtain ⟨hc2, hf2⟩ := bcell hb2
      have hz2' := hb2.size
      try simp only [World.size_alloc, World.size_setCell] at hz2'
      have HO2 := Lib.hid ho2; clear ho2
      go_wp2
      go_roundw
      case rel => exact ⟨k + 1, by omega, by go_num, HO.out.step hb2 (by decide) hb.size HE.out hlt HO2.out, by ((repeat (first | (with_reducible exact Below.refl _ _) | (with_reducible assumption) | (with_reducible refine Below.alloc ?_ ?_ _) | (with_reducible refine Below.setCell ?_ ?_ _) | (with_reducible refine Below.drew ?_) | (with_reducible refine below_setRow ?_ ?_ _) | (refine Below.trans ?_ (Below.mono (by assumption) ?_)))); all_goals (first | omega | (simp; done) | (simp; omega)))⟩
      case measure => simp [intOf]; omega
    · obtain rfl : k = n := by omega
      go_wp2
      go_ret
      exact ⟨_, _, _, rfl, HO.out.own HX.out, hb⟩
set_option maxHeartbeats 2000000 in
theorem toRaw_any (a : Option Addr) (cap n : Nat) (xs : List Shp) (w : World) (h : Shs w a xs) (hx : xs.length = n) (hn : n ≤ 1048576) (hm : fldSum xs ≤ 1048576) :
    Calls Try.prog 23 #[.agg #[.slice a n cap]] w (FreshSch w 40 45 n xs) := by
  have HX := Lib.hid hx; clear hx
  have HSs := Lib.hid h; clear h
  go_enter Try.func23, Try.ntmps23
  go_wp2_with fail
  refine (toRawMsgS_any _ _ _ xs _ (HSs.out.keep (by ((repeat (first | (with_reducible exact Below.refl _ _) | (with_reducible assumption) | (with_reducible refine Below.alloc ?_ ?_ _) | (with_reducible refine Below.setCell ?_ ?_ _) | (with_reducible refine Below.drew ?_) | (with_reducible refine below_setRow ?_ ?_ _) | (refine Below.trans ?_ (Below.mono (by assumption) ?_)))); all_goals (first | omega | (simp; done) | (simp; omega))))) HX.out hn hm).mono ?_
  rintro r w1 ⟨a1, cap1, rs1, rfl, ho1, hb1⟩
  obtain ⟨hc1, hf1⟩ := bcell hb1
  have hz1 := hb1.size
  simp only [World.size_alloc, World.size_setCell] at hz1
  have HO := Lib.hid ho1
  clear ho1
  go_wp2
  refine bodyPost_ret (v := .agg #[.slice a1 n cap1]) (by simp [results, Try.results23, go_sem, hc1]) rfl ⟨a1, cap1, rs1, rfl, ?_, by ((repeat (first | (with_reducible exact Below.refl _ _) | (with_reducible assumption) | (with_reducible refine Below.alloc ?_ ?_ _) | (with_reducible refine Below.setCell ?_ ?_ _) | (with_reducible refine Below.drew ?_) | (with_reducible refine below_setRow ?_ ?_ _) | (refine Below.trans ?_ (Below.mono (by assumption) ?_)))); all_goals (first | omega | (simp; done) | (simp; omega)))⟩
  ((first | refine owns_le (base := ?_) ?_ ?_ | refine OwnShs.le (base := ?_) ?_ ?_); rotate_left; (repeat (first | (refine owns_set ?_ ?_ _) | (refine OwnShs.set ?_ ?_ _) | exact HO.out)); all_goals (first | omega | (simp; done) | (simp; omega)))
set_option maxHeartbeats 2000000 in
theorem eqRawMsg_same (id : Int) (fs : List Fld) (n : Nat) (a a' : Option Addr) (cap cap' : Nat) (w : World) (h : Flds w a fs) (h' : Flds w a' fs) (hx : fs.length = n) (hn : n ≤ 1048576) :
    Calls Try.prog 84 #[.agg #[.int .i64 id, .slice a n cap], .agg #[.int .i64 id, .slice a' n cap']] w fun r w' => r = .returned (.bool true) ∧ Below w.heap.size w w' := by
  have HX := Lib.hid hx; clear hx
  have HS1 := Lib.hid h; clear h
  have HS2 := Lib.hid h'; clear h'
  go_enter Try.func84, Try.ntmps84
  go_wp2_with fail
  refine (eqRawFieldS_any _ _ _ _ _ _ fs fs _ (Sl.keep HS1.out (by ((repeat (first | (with_reducible exact Below.refl _ _) | (with_reducible assumption) | (with_reducible refine Below.alloc ?_ ?_ _) | (with_reducible refine Below.setCell ?_ ?_ _) | (with_reducible refine Below.drew ?_) | (with_reducible refine below_setRow ?_ ?_ _) | (refine Below.trans ?_ (Below.mono (by assumption) ?_)))); all_goals (first | omega | (simp; done) | (simp; omega))))) (Sl.keep HS2.out (by ((repeat (first | (with_reducible exact Below.refl _ _) | (with_reducible assumption) | (with_reducible refine Below.alloc ?_ ?_ _) | (with_reducible refine Below.setCell ?_ ?_ _) | (with_reducible refine Below.drew ?_) | (with_reducible refine below_setRow ?_ ?_ _) | (refine Below.trans ?_ (Below.mono (by assumption) ?_)))); all_goals (first | omega | (simp; done) | (simp; omega))))) HX.out HX.out hn hn).mono ?_
  rintro r w1 ⟨rfl, hb1⟩
  go_wp2
  go_ret
  exact ⟨rfl, by ((repeat (first | (with_reducible exact Below.refl _ _) | (with_reducible assumption) | (with_reducible refine Below.alloc ?_ ?_ _) | (with_reducible refine Below.setCell ?_ ?_ _) | (with_reducible refine Below.drew ?_) | (with_reducible refine below_setRow ?_ ?_ _) | (refine Below.trans ?_ (Below.mono (by assumption) ?_)))); all_goals (first | omega | (simp; done) | (simp; omega)))⟩
set_option maxHeartbeats 2000000 in
theorem eqRawMsgS_same (a a' : Option Addr) (cap cap' n : Nat) (xs : List Shp) (w : World) (h : Shs w a xs) (h' : Shs w a' xs) (hx : xs.length = n) (hn : n ≤ 1048576) (hm : fldSum xs ≤ 1048576) :
    Calls Try.prog 58 #[.slice a n cap, .slice a' n cap'] w fun r w' => r = .returned (.bool true) ∧ Below w.heap.size w w' := by
  have HX := Lib.hid hx; clear hx
  go_enter Try.func58, Try.ntmps58
  go_wp2
  go_loopw [4, 5] (fun t i wr => ∃ k : Nat, k ≤ n ∧ i = .int .i64 k ∧ t = .bool false ∧ Below w.heap.size w wr) (fun _ i _ => n - (intOf i).toNat)
  case atStart => exact ⟨0, Nat.zero_le _, rfl, rfl, Below.refl _ _⟩
  case round =>
    obtain ⟨k, hk, rfl, rfl, hb⟩ := hrel
    have hz := hb.size
    by_cases hlt : k < n
    · obtain ⟨e, he, _⟩ := at_lt (xs := xs) (k := k) (by rw [HX.out]; exact hlt)
      have HE := Lib.hid he
      have hne := Nat.le_trans (fldSum_ge he) hm
      obtain ⟨b, off, a1, cap1, rfl, hlb, c0, c1, hs1⟩ := h.below hb (Nat.le_refl _) k e he
      obtain ⟨b', off', a2, cap2, rfl, hlb', d0, d1, hs2⟩ := h'.below hb (Nat.le_refl _) k e he
      clear he
      have HS1 := Lib.hid hs1; clear hs1
      have HS2 := Lib.hid hs2; clear hs2
      go_wp2_with fail
      (refine wp_region_ext (by kernel_rfl) (by kernel_rfl) ?_; (repeat (go_big_quiet_step (first | (go_at_call 84; refine Calls.ext_of (eqRawMsg_same _ _ _ _ _ _ _ _ (Sl.keep HS1.out (World.ext_below _ _)) (Sl.keep HS2.out (World.ext_below _ _)) rfl hne))))); refine wpQuiet_nil ?_; intro w1 hb1; obtain ⟨hc1, hf1⟩ := bcell hb1; have hz1 := hb1.size; (try simp only [World.size_alloc, World.size_setCell, World.size_drew] at hz1))
      go_wp2
      go_roundw
      case rel => exact ⟨k + 1, by omega, by go_num, rfl, by ((repeat (first | (with_reducible exact Below.refl _ _) | (with_reducible assumption) | (with_reducible refine Below.alloc ?_ ?_ _) | (with_reducible refine Below.setCell ?_ ?_ _) | (with_reducible refine Below.drew ?_) | (with_reducible refine below_setRow ?_ ?_ _) | (refine Below.trans ?_ (Below.mono (by assumption) ?_)))); all_goals (first | omega | (simp; done) | (simp; omega)))⟩
      case measure => simp [intOf]; omega
    · go_wp2
      go_ret
      exact ⟨rfl, hb⟩
set_option maxHeartbeats 2000000 in
theorem eqRaw_same (a a' : Option Addr) (cap cap' n : Nat) (xs : List Shp) (w : World) (h : Shs w a xs) (h' : Shs w a' xs) (hx : xs.length = n) (hn : n ≤ 1048576) (hm : fldSum xs ≤ 1048576) :
    Calls Try.prog 26 #[.agg #[.slice a n cap], .agg #[.slice a' n cap']] w fun r w' => r = .returned (.bool true) ∧ Below w.heap.size w w' := by
  have HX := Lib.hid hx; clear hx
  have HS1 := Lib.hid h; clear h
  have HS2 := Lib.hid h'; clear h'
  go_enter Try.func26, Try.ntmps26
  go_wp2_with fail
  refine (eqRawMsgS_same _ _ _ _ _ xs _ (HS1.out.keep (by ((repeat (first | (with_reducible exact Below.refl _ _) | (with_reducible assumption) | (with_reducible refine Below.alloc ?_ ?_ _) | (with_reducible refine Below.setCell ?_ ?_ _) | (with_reducible refine Below.drew ?_) | (with_reducible refine below_setRow ?_ ?_ _) | (refine Below.trans ?_ (Below.mono (by assumption) ?_)))); all_goals (first | omega | (simp; done) | (simp; omega))))) (HS2.out.keep (by ((repeat (first | (with_reducible exact Below.refl _ _) | (with_reducible assumption) | (with_reducible refine Below.alloc ?_ ?_ _) | (with_reducible refine Below.setCell ?_ ?_ _) | (with_reducible refine Below.drew ?_) | (with_reducible refine below_setRow ?_ ?_ _) | (refine Below.trans ?_ (Below.mono (by assumption) ?_)))); all_goals (first | omega | (simp; done) | (simp; omega))))) HX.out hn hm).mono ?_
  rintro r w1 ⟨rfl, hb1⟩
  go_wp2
  go_ret
  exact ⟨rfl, by ((repeat (first | (with_reducible exact Below.refl _ _) | (with_reducible assumption) | (with_reducible refine Below.alloc ?_ ?_ _) | (with_reducible refine Below.setCell ?_ ?_ _) | (with_reducible refine Below.drew ?_) | (with_reducible refine below_setRow ?_ ?_ _) | (refine Below.trans ?_ (Below.mono (by assumption) ?_)))); all_goals (first | omega | (simp; done) | (simp; omega)))⟩
set_option maxRecDepth 100000 in
set_option maxHeartbeats 2000000 in
theorem markRawFieldS_any (a : Option Addr) (cap n : Nat) (L : List Value) (x : Int) (k : Nat) (hxk : x = k) (lo hi : Nat) (w : World) (ho : OwnR w lo hi a (n * 5) L) (hn : n ≤ 1048576) (h0 : 0 < k) (hk : k ≤ 100000000) :
    Calls Try.prog 85 #[.slice a n cap, .int .i64 x] w fun r w' => r = .returned (.int .i64 (x + 5 * n)) ∧ OwnR w' lo hi a (n * 5) ((marksF k n).flatMap Fld.cs) ∧ Chg lo hi w w' := by
  subst hxk
  have HO0 := Lib.hid ho; clear ho
  go_enter Try.func85, Try.ntmps85
  go_wp2
  go_loopw [1, 5] (fun t i wr => ∃ j q : Nat, j ≤ n ∧ i = .int .i64 j ∧ t = .int .i64 q ∧ Hid (q = k + 5 * j) ∧ q ≤ 106000000 ∧ 0 < q ∧ (∃ L', OwnR wr lo hi a (n * 5) L' ∧ L'.take (j * 5) = (marksF k j).flatMap Fld.cs) ∧ Chg lo hi w wr) (fun _ i _ => n - (intOf i).toNat)
  case atStart => exact ⟨0, k, Nat.zero_le _, rfl, rfl, Lib.hid (by omega), by omega, h0, ⟨_, HO0.out, by simp [marksF]⟩, Chg.refl _ _ _⟩
  case round =>
    obtain ⟨j, q, hj, rfl, rfl, HQ, hq, hq0, ⟨L', ho, hT⟩, hc⟩ := hrel
    have HT := Lib.hid hT; clear hT
    by_cases hlt : j < n
    · have HO := Lib.hid ho
      have HC := Lib.hid hc; clear hc
      have hlen := ho.len
      rcases ho.own with h' | ⟨g, rfl, h1, h2, h3, h4, h5⟩
      · omega
      have d0 := h4 (j * 5) L'[j * 5] (List.getElem?_eq_getElem (by omega))
      have d1 := h4 (j * 5 + 1) L'[j * 5 + 1] (List.getElem?_eq_getElem (by omega))
      have d2 := h4 (j * 5 + 2) L'[j * 5 + 2] (List.getElem?_eq_getElem (by omega))
      have d3 := h4 (j * 5 + 3) L'[j * 5 + 3] (List.getElem?_eq_getElem (by omega))
      have d4 := h4 (j * 5 + 4) L'[j * 5 + 4] (List.getElem?_eq_getElem (by omega))
      clear h4 ho
      have e2 := mod3 q 2 ((q : Int) + 1 + 1) (by push_cast; omega)
      have e3 := mod3 q 3 ((q : Int) + 1 + 1 + 1) (by push_cast; omega)
      go_wp2
      go_roundw
      case rel =>
        have hl5 : j * 5 + 5 ≤ n * 5 := by omega
        have hq5 : q + 5 ≤ 106000000 := by have := HQ.out; omega
        refine ⟨j + 1, q + 5, by omega, by go_num, by go_num, Lib.hid (by have := HQ.out; omega), hq5, by omega, ⟨setRow L' (j * 5) (markF q).cs, ?_, ?_⟩, ?_⟩
        · exact ((((HO.out.store (j := j * 5) (by omega) _).store (j := j * 5 + 1) (by omega) _).store (j := j * 5 + 2) (by omega) _).store (j := j * 5 + 3) (by omega) _).store (j := j * 5 + 4) (by omega) _
        · rw [show (j + 1) * 5 = j * 5 + (markF q).cs.length from by rw [fld_len]; omega, setRow_take (markF q).cs L' (j * 5) (by rw [fld_len, hlen]; omega), HT.out, marksF_succ, ← HQ.out]
          simp
        · exact ((((HC.out.trans (Chg.setCell h1 h2 _)).trans (Chg.setCell h1 h2 _)).trans (Chg.setCell h1 h2 _)).trans (Chg.setCell h1 h2 _)).trans (Chg.setCell h1 h2 _)
      case measure => simp [intOf]; omega
    · have hjn : j = n := by omega
      subst hjn
      have hL := Lib.hid (show L' = (marksF k j).flatMap Fld.cs by have h1 := HT.out; rw [List.take_of_length_le (by rw [ho.len]; omega)] at h1; exact h1)
      have HO := Lib.hid ho; clear ho
      have HC := Lib.hid hc; clear hc
      go_wp2
      go_ret
      exact ⟨ret_int (by have := HQ.out; omega), by rw [← hL.out]; exact HO.out, HC.out⟩
set_option maxRecDepth 100000 in
set_option maxHeartbeats 2000000 in
theorem markRawMsgS_any (a : Option Addr) (cap n : Nat) (rs : List ShR) (xs : List Shp) (x : Int) (k : Nat) (hxk : x = k) (lo hi : Nat) (w : World) (ho : OwnSh w lo hi a n rs xs) (hn : n ≤ 1048576) (hm : fldSum xs ≤ 1048576) (h0 : 0 < k) (hk : k ≤ 1000000) :
    Calls Try.prog 59 #[.slice a n cap, .int .i64 x] w fun r w' => r = .returned (.int .i64 (kS k xs n : Nat)) ∧ (∃ rs', OwnSh w' lo hi a n rs' (marksS k xs) ∧ SameR rs rs') ∧ ChgB (ShBlk a n rs) w w' := by
  subst hxk
  have HO0 := Lib.hid ho; clear ho
  go_enter Try.func59, Try.ntmps59
  go_wp2
  go_loopw [1, 5] (fun t i wr => ∃ j q : Nat, j ≤ n ∧ i = .int .i64 j ∧ t = .int .i64 q ∧ Hid (q = kS k xs j) ∧ q ≤ 10000000 ∧ 0 < q ∧ (∃ rs', OwnSh wr lo hi a n rs' (partS k xs j) ∧ SameR rs rs') ∧ ChgB (ShBlk a n rs) w wr) (fun _ i _ => n - (intOf i).toNat)
  case atStart => exact ⟨0, k, Nat.zero_le _, rfl, rfl, Lib.hid (by simp [kS, fldSum]), by omega, h0, ⟨_, by rw [partS_zero]; exact HO0.out, SameR.refl _⟩, ChgB.refl _ _⟩
  case round =>
    obtain ⟨j, q, hj, rfl, rfl, HQ, hq, hq0, ⟨rs', ho, hsr⟩, hc⟩ := hrel
    by_cases hlt : j < n
    · obtain ⟨r, y, hr, hy⟩ := ho.at hlt
      have hxj : j < xs.length := by rw [HO0.out.lenx]; exact hlt
      have he : xs[j]? = some y := by
        rw [partS_at] at hy
        cases hxx : xs[j]? with
        | none => rw [hxx] at hy; simp at hy
        | some z => rw [hxx] at hy; simp at hy; rw [hy]
      obtain ⟨f1, f2, f3⟩ := ho.each j r y hr hy
      obtain ⟨g1, e1, p1, p2, p3, p4⟩ := f3.narrow ho.le
      have hlen := ho.outer.len
      have hcr : ∀ i u, (r.cs)[i]? = some u → i < 2 → (rs'.flatMap ShR.cs)[j * 2 + i]? = some u := fun i u hu hi => by rw [flatMap_at shR_len rs' j i r hr hi]; exact hu
      have hfe := fldSum_ge he
      have hks := Lib.hid (kS_succ (k := k) he)
      have hkl := Lib.hid (kS_le k xs (j + 1))
      have hrn : r.n ≤ 1048576 := by omega
      have HF2 := Lib.hid f2
      have HO := Lib.hid ho
      have HR := Lib.hid hr
      have HY := Lib.hid hy
      have HE := Lib.hid he
      have HP := Lib.hid p4
      have HS := Lib.hid hsr
      have HC := Lib.hid hc
      have HF := Lib.hid p3
      have hn0 := hn
      have hoff := Lib.hid (fun g hg hne => ho.off j r g hr hne hg)
      rcases ho.outer.own with h' | ⟨g, rfl, h1, h2, h3, h4, h5⟩
      · omega
      have d0 : wr.cell? ⟨g, j * 2, none⟩ = some (.int .i64 r.id) := h4 (j * 2) _ (hcr 0 _ rfl (by omega))
      have d1 : wr.cell? ⟨g, j * 2 + 1, none⟩ = some (.slice r.a r.n r.cap) := h4 (j * 2 + 1) _ (hcr 1 _ rfl (by omega))
      clear h4 ho hcr hsr hr hy he p4 hc f3 p3 f1 f2 hfe
      have hrow : OwnR (wr.setCell ⟨g, j * 2, none⟩ (.int .i64 (q : Int))) g1 e1 r.a (r.n * 5) (y.flds.flatMap Fld.cs) := HF.out.chg1 (Chg.setCell (lo := g) (hi := g + 1) (Nat.le_refl _) (by omega) _) fun b hb hne => by
        by_cases hbg : b = g
        · subst hbg; exact absurd hb (hoff.out b rfl (by omega))
        · omega
      have HW := Lib.hid hrow
      clear hrow
      go_wp2_with fail
      refine (markRawFieldS_any r.a r.cap r.n _ _ (q + 1) (by omega) g1 e1 _ HW.out (by omega) (by omega) (by omega)).mono ?_
      rintro r2 w2 ⟨rfl, hr2, hc2⟩
      have HR2 := Lib.hid hr2; clear hr2
      have HC2 := Lib.hid hc2; clear hc2
      go_wp2
      go_roundw
      case rel =>
        have hqv : q + 1 + 5 * r.n = kS k xs (j + 1) := by have := HQ.out; have := hks.out; have := HF2.out; omega
        refine ⟨j + 1, q + 1 + 5 * r.n, by omega, by go_num, by go_num, Lib.hid hqv, by rw [hqv]; have := hkl.out; omega, by omega, ⟨_, ?_, HS.out.set HR.out (q : Int)⟩, ?_⟩
        · have hp' : r.n = 0 ∧ e1 = g1 ∨ r.n ≠ 0 ∧ e1 = g1 + 1 ∧ r.a = some ⟨g1, 0, none⟩ := by
            rcases HP.out with hh | hh
            · exact .inl ⟨by have := hh.1; omega, hh.2⟩
            · exact .inr ⟨by have := hh.1; omega, hh.2⟩
          have hput := OwnSh.put HO.out hlt HR.out HY.out HR2.out (marksF_len _ _) HC2.out p1 p2 hp'
          rw [← partS_succ HE.out]
          have hmk : markShp k xs j y = ⟨(q : Int), marksF (q + 1) r.n⟩ := by simp only [markShp]; rw [← HQ.out, ← HF2.out]
          rw [hmk]; exact hput
        · refine (HC.out.trans (Chg.toB (Chg.setCell (lo := g) (hi := g + 1) (Nat.le_refl _) (by omega) _) fun b hb1 hb2 => ?_)).trans (Chg.toB HC2.out fun b hb1 hb2 => ?_)
          · have : b = g := by omega
            subst this
            exact .inl ⟨by omega, rfl⟩
          · rcases HP.out with ⟨u, v⟩ | ⟨u, v, z⟩
            · omega
            · have : b = g1 := by omega
              subst this
              exact HS.out.blk (.inr ⟨j, r, HR.out, by omega, z⟩)
      case measure => simp [intOf]; omega
    · have hjn : j = n := by omega
      subst hjn
      have HO := Lib.hid ho; clear ho
      have HC := Lib.hid hc; clear hc
      have HSR := Lib.hid hsr; clear hsr
      go_wp2
      go_ret
      exact ⟨ret_int (by rw [HQ.out]), ⟨rs', by rw [marksS, HO0.out.lenx]; exact HO.out, HSR.out⟩, HC.out⟩
set_option maxHeartbeats 1000000 in
theorem markRaw_any (a : Option Addr) (cap n : Nat) (rs : List ShR) (xs : List Shp) (x : Int) (k : Nat) (hxk : x = k) (lo hi : Nat) (w : World) (ho : OwnSh w lo hi a n rs xs) (hn : n ≤ 1048576) (hm : fldSum xs ≤ 1048576) (h0 : 0 < k) (hk : k ≤ 1000000) :
    Calls Try.prog 27 #[.agg #[.slice a n cap], .int .i64 x] w fun r w' => r = .returned (.int .i64 (kS k xs n : Nat)) ∧ (∃ rs', OwnSh w' lo hi a n rs' (marksS k xs) ∧ SameR rs rs') ∧ ChgB (ShBlk a n rs) w w' := by
  subst hxk
  have HO0 := Lib.hid ho; clear ho
  go_enter Try.func27, Try.ntmps27
  go_wp2_with fail
  refine (markRawMsgS_any a cap n rs xs _ k rfl lo hi _ (HO0.out.keep (by ((repeat (first | (with_reducible exact Below.refl _ _) | (with_reducible assumption) | (with_reducible refine Below.alloc ?_ ?_ _) | (with_reducible refine Below.setCell ?_ ?_ _) | (with_reducible refine Below.drew ?_) | (with_reducible refine below_setRow ?_ ?_ _) | (refine Below.trans ?_ (Below.mono (by assumption) ?_)))); all_goals (first | omega | (simp; done) | (simp; omega))))) hn hm h0 hk).mono ?_
  rintro r w1 ⟨rfl, ⟨rs', ho1, hsr1⟩, hc1⟩
  have HSR := Lib.hid hsr1; clear hsr1
  have HO := Lib.hid ho1; clear ho1
  have HC := Lib.hid hc1; clear hc1
  go_wp2
  go_ret
  exact ⟨rfl, ⟨rs', HO.out, HSR.out⟩, (ChgB.trans (Chg.toB (g := 0) (e := 0) (Chg.of_below (by ((repeat (first | (with_reducible exact Below.refl _ _) | (with_reducible assumption) | (with_reducible refine Below.alloc ?_ ?_ _) | (with_reducible refine Below.setCell ?_ ?_ _) | (with_reducible refine Below.drew ?_) | (with_reducible refine below_setRow ?_ ?_ _) | (refine Below.trans ?_ (Below.mono (by assumption) ?_)))); all_goals (first | omega | (simp; done) | (simp; omega))))) (fun b h1 h2 => by omega)) HC.out)⟩
section
variable {H : Type} {enc : TypeId × Value → H} {W : World} {base : Nat} {sp : Nat → Bool} {v : Value} {d : DataW H} {ps : List MemPlace}
theorem flat_raw : flat Try.prog 9 57 = some [.sl shpCK] := by kernel_rfl
theorem cells_raw : Try.prog.cellsOf 57 = 1 := by kernel_rfl
set_option maxRecDepth 100000 in
theorem openRaw (hv : Value.okWide Try.prog W .any base 57 v) (h : DataW.Trod enc Try.prog W 0 sp true 57 v d ps) : ∃ x : ShArg, v = .agg #[x.sl] ∧ x.ok W := by
  obtain ⟨cs, rfl, hsz⟩ := agg_of_okWide Try.underlying57 hv
  obtain ⟨x, hx, hk⟩ := flat_trod flat_raw cells_raw h 0 _ rfl
  obtain ⟨y, rfl, hy⟩ := shs_open (hk 3)
  refine ⟨y, ?_, hy⟩
  obtain ⟨l⟩ := cs
  rw [cells_raw] at hsz
  match l, hsz with
  | [c], _ => simp [Value.cells] at hx; rw [hx]
end
end Go.Proofs.Ytbpilecgnfnndaa

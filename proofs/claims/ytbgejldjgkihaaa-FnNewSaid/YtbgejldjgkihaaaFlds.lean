/- Slices of fields: what the laws' own functions do with them. (Printed by wip/tools/rowgen.py.) -/
import Derived.Test.YtbgejldjgkihaaaSl
import Derived.Test.YtbgejldjgkihaaaFld
namespace Go.Proofs.Ytbgejldjgkihaaa
set_option linter.unusedSimpArgs false
set_option linter.unusedVariables false
open Go.ChangeShapes Go.WideShapes Go.ChangeAt Go.RowKit Go.BigFrame
@[reducible] def Flds := Sl 5 Fld.cs
theorem Flds.at {w : World} {a : Option Addr} {xs : List Fld} (h : Flds w a xs) {k : Nat} {e : Fld} (he : xs[k]? = some e) :
    ∃ b off, a = some ⟨b, off, none⟩ ∧ b < w.heap.size ∧ w.cell? ⟨b, off + k * 5, none⟩ = some (.int .i64 e.number) ∧ w.cell? ⟨b, off + k * 5 + 1, none⟩ = some (.int .i64 e.kind) ∧ w.cell? ⟨b, off + k * 5 + 2, none⟩ = some (.bool e.rep) ∧ w.cell? ⟨b, off + k * 5 + 3, none⟩ = some (.bool e.packed) ∧ w.cell? ⟨b, off + k * 5 + 4, none⟩ = some (.int .i64 e.msg) := by
  obtain ⟨b, off, ha, hlt, hc⟩ := h k e he
  exact ⟨b, off, ha, hlt, hc 0 _ rfl, hc 1 _ rfl, hc 2 _ rfl, hc 3 _ rfl, hc 4 _ rfl⟩
theorem fld_len (e : Fld) : e.cs.length = 5 := rfl
theorem owns_store_fld {w : World} {base g cap n : Nat} {t : TypeId} {L : List Value} (h : w.ownsRow base t 5 (.slice (some ⟨g, 0, none⟩) n cap) n L) (k : Nat) (e : Fld) :
    (((((w.setCell ⟨g, k * 5, none⟩ (.int .i64 e.number)).setCell ⟨g, k * 5 + 1, none⟩ (.int .i64 e.kind)).setCell ⟨g, k * 5 + 2, none⟩ (.bool e.rep)).setCell ⟨g, k * 5 + 3, none⟩ (.bool e.packed)).setCell ⟨g, k * 5 + 4, none⟩ (.int .i64 e.msg)).ownsRow base t 5 (.slice (some ⟨g, 0, none⟩) n cap) n (setRow L (k * 5) e.cs) := by
  have h0 := (h.stored (k * 5) (.int .i64 e.number)).1
  have h1 := (h0.stored (k * 5 + 1) (.int .i64 e.kind)).1
  have h2 := (h1.stored (k * 5 + 2) (.bool e.rep)).1
  have h3 := (h2.stored (k * 5 + 3) (.bool e.packed)).1
  exact (h3.stored (k * 5 + 4) (.int .i64 e.msg)).1
theorem flds_of_own {w' : World} {base n cap : Nat} {a : Option Addr} {t : TypeId} {xs : List Fld} (h : w'.ownsRow base t 5 (.slice a n cap) n (xs.flatMap Fld.cs)) (hn : xs.length = n) : Flds w' a xs := by
  obtain ⟨a', cap', e, _, _, hs⟩ := Sl.of_owns fld_len h hn
  simp only [Value.slice.injEq] at e
  rw [e.1]; exact hs
set_option maxHeartbeats 2000000 in
theorem eqFieldS_any (a a' : Option Addr) (cap cap' n n' : Nat) (xs ys : List Fld) (w : World) (h : Flds w a xs) (h' : Flds w a' ys) (hx : xs.length = n) (hy : ys.length = n') (hn : n ≤ 1048576) (hn' : n' ≤ 1048576) :
    Calls Try.prog 169 #[.slice a n cap, .slice a' n' cap'] w fun r w' => r = .returned (.bool (decide (xs = ys))) ∧ Below w.heap.size w w' := by
  have HX := Lib.hid hx; clear hx
  have HY := Lib.hid hy; clear hy
  by_cases hl : n = n'
  · subst hl
    go_enter Try.func169, Try.ntmps169
    go_wp2
    go_loopw [4, 5] (fun t i wr => ∃ k : Nat, k ≤ n ∧ i = .int .i64 k ∧ t = .bool false ∧ Hid (xs.take k = ys.take k) ∧ Below w.heap.size w wr) (fun _ i _ => n - (intOf i).toNat)
    case atStart => exact ⟨0, Nat.zero_le _, rfl, rfl, Lib.hid rfl, Below.refl _ _⟩
    case round =>
      obtain ⟨k, hk, rfl, rfl, HT, hb⟩ := hrel
      have hz := hb.size
      by_cases hlt : k < n
      · obtain ⟨e, he, _⟩ := at_lt (xs := xs) (k := k) (by rw [HX.out]; exact hlt)
        obtain ⟨f, hf, _⟩ := at_lt (xs := ys) (k := k) (by rw [HY.out]; exact hlt)
        have HE := Lib.hid he
        have HF := Lib.hid hf
        obtain ⟨b, off, rfl, hlb, c0, c1, c2, c3, c4⟩ := Flds.at (h.below hb (Nat.le_refl _)) he
        obtain ⟨b', off', rfl, hlb', d0, d1, d2, d3, d4⟩ := Flds.at (h'.below hb (Nat.le_refl _)) hf
        clear he hf
        by_cases hef : e = f
        · have hd : decide (e = f) = true := by simp [hef]
          have HD := Lib.hid hef; clear hef
          have HT2 := Lib.hid (show xs.take (k + 1) = ys.take (k + 1) by rw [List.take_add_one, List.take_add_one, HT.out, HE.out, HF.out, HD.out])
          go_wp2_with fail
          (refine wp_region_ext (by kernel_rfl) (by kernel_rfl) ?_; (repeat (go_big_quiet_step (first | (go_at_call 182; refine Calls.ext_of (eqField_any e f _))))); refine wpQuiet_nil ?_; intro w1 hb1; obtain ⟨hc1, hf1⟩ := bcell hb1; have hz1 := hb1.size; (try simp only [World.size_alloc, World.size_setCell, World.size_drew] at hz1))
          go_wp2
          go_roundw
          case rel => exact ⟨k + 1, by omega, by go_num, rfl, HT2, by ((repeat (first | (with_reducible exact Below.refl _ _) | (with_reducible assumption) | (with_reducible refine Below.alloc ?_ ?_ _) | (with_reducible refine Below.setCell ?_ ?_ _) | (with_reducible refine Below.drew ?_) | (with_reducible refine below_setRow ?_ ?_ _) | (refine Below.trans ?_ (Below.mono (by assumption) ?_)))); all_goals (first | omega | (simp; done) | (simp; omega)))⟩
          case measure => simp [intOf]; omega
        · have hd : decide (e = f) = false := by simp [hef]
          have HS := Lib.hid (show decide (xs = ys) = false by
            simp only [decide_eq_false_iff_not]; intro hxy; subst hxy; apply hef; have h1 := HE.out; rw [HF.out] at h1; simpa using h1.symm)
          clear hef
          go_wp2_with fail
          (refine wp_region_ext (by kernel_rfl) (by kernel_rfl) ?_; (repeat (go_big_quiet_step (first | (go_at_call 182; refine Calls.ext_of (eqField_any e f _))))); refine wpQuiet_nil ?_; intro w1 hb1; obtain ⟨hc1, hf1⟩ := bcell hb1; have hz1 := hb1.size; (try simp only [World.size_alloc, World.size_setCell, World.size_drew] at hz1))
          go_wp2
          go_ret
          exact ⟨ret_bool HS.out.symm, by ((repeat (first | (with_reducible exact Below.refl _ _) | (with_reducible assumption) | (with_reducible refine Below.alloc ?_ ?_ _) | (with_reducible refine Below.setCell ?_ ?_ _) | (with_reducible refine Below.drew ?_) | (with_reducible refine below_setRow ?_ ?_ _) | (refine Below.trans ?_ (Below.mono (by assumption) ?_)))); all_goals (first | omega | (simp; done) | (simp; omega)))⟩
      · have HS := Lib.hid (show decide (xs = ys) = true by
          have := HT.out; rw [List.take_of_length_le (by rw [HX.out]; omega), List.take_of_length_le (by rw [HY.out]; omega)] at this; simp [this])
        go_wp2
        go_ret
        exact ⟨ret_bool HS.out.symm, hb⟩
  · have HS := Lib.hid (show decide (xs = ys) = false by
      simp only [decide_eq_false_iff_not]; intro hxy; subst hxy; exact hl (HX.out.symm.trans HY.out))
    have hl' : ((n : Int) != (n' : Int)) = true := by simp; omega
    go_enter Try.func169, Try.ntmps169
    go_wp2
    go_ret
    exact ⟨ret_bool HS.out.symm, Below.refl _ _⟩

theorem info_RawField : (Try.prog.info? 45).map (fun i => (i.zero, i.size, i.bytes)) = some (some (.agg #[.int .i64 0, .int .i64 0, .bool false, .bool false, .int .i64 0]), 5, 32) := by kernel_rfl
set_option maxRecDepth 100000 in
set_option maxHeartbeats 2000000 in
theorem toRawFieldS_any (a : Option Addr) (cap n : Nat) (xs : List Fld) (w : World) (h : Flds w a xs) (hx : xs.length = n) (hn : n ≤ 1048576) :
    Calls Try.prog 168 #[.slice a n cap] w (FreshRow w 45 5 n (xs.flatMap Fld.cs)) := by
  have HX := Lib.hid hx; clear hx
  obtain ⟨i0, hi, hz0, hz1, hz2⟩ := info_parts info_RawField
  go_enter Try.func168, Try.ntmps168
  go_wp2_with (first | (at_make; refine wpList_make_full _ rfl _ _ 38 rfl w.heap.size 45 i0 _ 5 Try.underlying38 hi hz0 hz1 .i64 .i64 _ _ n rfl rfl rfl rfl (by rw [hz2]; omega) (by unfold maxLen; omega) (Nat.le_refl _) ?_; intro w1 hown hgrow))
  have hb0 : Below w.heap.size w w1 := (Below.refl _ _).grown hgrow (Nat.le_refl _) (by simp)
  clear hgrow
  go_loopw [4] (fun i wr => ∃ k : Nat, k ≤ n ∧ i = .int .i64 k ∧ (∃ L, wr.ownsRow w.heap.size 45 5 (.slice (some ⟨w.heap.size, 0, none⟩) n n) n L ∧ L.take (k * 5) = (xs.take k).flatMap Fld.cs) ∧ Below w.heap.size w wr) (fun i _ => n - (intOf i).toNat)
  case atStart => exact ⟨0, Nat.zero_le _, rfl, ⟨_, hown, by simp⟩, hb0⟩
  case round =>
    obtain ⟨k, hk, rfl, ⟨L, ho, hT⟩, hb⟩ := hrel
    have HT := Lib.hid hT; clear hT
    have HO := Lib.hid ho; clear ho
    have hz := hb.size
    by_cases hlt : k < n
    · obtain ⟨e, he, _⟩ := at_lt (xs := xs) (k := k) (by rw [HX.out]; exact hlt)
      have HE := Lib.hid he
      obtain ⟨b, off, rfl, hlb, c0, c1, c2, c3, c4⟩ := Flds.at (h.below hb (Nat.le_refl _)) he
      clear he
      have hown1 := Lib.hid hown
      clear hown
      obtain ⟨u0, d0⟩ := owns_some HO.out (k * 5) (by omega)
      obtain ⟨u1, d1⟩ := owns_some HO.out (k * 5 + 1) (by omega)
      obtain ⟨u2, d2⟩ := owns_some HO.out (k * 5 + 2) (by omega)
      obtain ⟨u3, d3⟩ := owns_some HO.out (k * 5 + 3) (by omega)
      obtain ⟨u4, d4⟩ := owns_some HO.out (k * 5 + 4) (by omega)
      have hfz : ∀ j, wr.frozen? ⟨w.heap.size, j, none⟩ = false := HO.out.frozenAt
      have hwr : w.heap.size < wr.heap.size := World.block_lt_of_cell? _ _ d0
      go_wp2_with (first | (go_at_call 181; refine (toRawField_any e _).mono ?_; rintro r w2 ⟨rfl, hb2⟩; obtain ⟨hc2, hf2⟩ := bcell hb2; have hz2 := hb2.size; (try simp only [World.size_alloc, World.size_setCell, World.size_drew] at hz2)))
      go_roundw
      case rel => exact ⟨k + 1, by omega, by go_num, ⟨_, owns_store_fld (owns_below HO.out hb2 (Nat.le_refl _)) k e, filled_step fld_len HE.out hlt HO.out.1 HT.out⟩, by ((repeat (first | (with_reducible exact Below.refl _ _) | (with_reducible assumption) | (with_reducible refine Below.alloc ?_ ?_ _) | (with_reducible refine Below.setCell ?_ ?_ _) | (with_reducible refine Below.drew ?_) | (with_reducible refine below_setRow ?_ ?_ _) | (refine Below.trans ?_ (Below.mono (by assumption) ?_)))); all_goals (first | omega | (simp; done) | (simp; omega)))⟩
      case measure => simp [intOf]; omega
    · obtain rfl : k = n := by omega
      have hL := Lib.hid (show L = xs.flatMap Fld.cs by
        have h1 := HT.out; rw [List.take_of_length_le (Nat.le_of_eq HO.out.1), List.take_of_length_le (Nat.le_of_eq HX.out)] at h1; exact h1)
      go_wp2
      go_ret
      exact ⟨_, _, rfl, by rw [← hL.out]; exact HO.out, hb⟩
theorem szRawFieldS_any (a : Option Addr) (cap n : Nat) (left : Int) (w : World) (hn : n ≤ maxLen) (h0 : 0 ≤ left) (h1 : left ≤ 1048576) :
    Calls Try.prog 167 #[.slice a n cap, .int .i64 left] w fun r w' => r = .returned (.int .i64 (if left < n then -1 else left - n)) ∧ w = w' := by
  unfold maxLen at hn
  by_cases hl : left < n
  all_goals
    go_enter Try.func167, Try.ntmps167
    go_wp2
    go_ret
    exact ⟨ret_int (by simp [hl]), rfl⟩
set_option maxHeartbeats 2000000 in
theorem eqRawFieldS_any (a a' : Option Addr) (cap cap' n n' : Nat) (xs ys : List Fld) (w : World) (h : Flds w a xs) (h' : Flds w a' ys) (hx : xs.length = n) (hy : ys.length = n') (hn : n ≤ 1048576) (hn' : n' ≤ 1048576) :
    Calls Try.prog 170 #[.slice a n cap, .slice a' n' cap'] w fun r w' => r = .returned (.bool (decide (xs = ys))) ∧ Below w.heap.size w w' := by
  have HX := Lib.hid hx; clear hx
  have HY := Lib.hid hy; clear hy
  by_cases hl : n = n'
  · subst hl
    go_enter Try.func170, Try.ntmps170
    go_wp2
    go_loopw [4, 5] (fun t i wr => ∃ k : Nat, k ≤ n ∧ i = .int .i64 k ∧ t = .bool false ∧ Hid (xs.take k = ys.take k) ∧ Below w.heap.size w wr) (fun _ i _ => n - (intOf i).toNat)
    case atStart => exact ⟨0, Nat.zero_le _, rfl, rfl, Lib.hid rfl, Below.refl _ _⟩
    case round =>
      obtain ⟨k, hk, rfl, rfl, HT, hb⟩ := hrel
      have hz := hb.size
      by_cases hlt : k < n
      · obtain ⟨e, he, _⟩ := at_lt (xs := xs) (k := k) (by rw [HX.out]; exact hlt)
        obtain ⟨f, hf, _⟩ := at_lt (xs := ys) (k := k) (by rw [HY.out]; exact hlt)
        have HE := Lib.hid he
        have HF := Lib.hid hf
        obtain ⟨b, off, rfl, hlb, c0, c1, c2, c3, c4⟩ := Flds.at (h.below hb (Nat.le_refl _)) he
        obtain ⟨b', off', rfl, hlb', d0, d1, d2, d3, d4⟩ := Flds.at (h'.below hb (Nat.le_refl _)) hf
        clear he hf
        by_cases hef : e = f
        · have hd : decide (e = f) = true := by simp [hef]
          have HD := Lib.hid hef; clear hef
          have HT2 := Lib.hid (show xs.take (k + 1) = ys.take (k + 1) by rw [List.take_add_one, List.take_add_one, HT.out, HE.out, HF.out, HD.out])
          go_wp2_with fail
          (refine wp_region_ext (by kernel_rfl) (by kernel_rfl) ?_; (repeat (go_big_quiet_step (first | (go_at_call 183; refine Calls.ext_of (eqRawField_any e f _))))); refine wpQuiet_nil ?_; intro w1 hb1; obtain ⟨hc1, hf1⟩ := bcell hb1; have hz1 := hb1.size; (try simp only [World.size_alloc, World.size_setCell, World.size_drew] at hz1))
          go_wp2
          go_roundw
          case rel => exact ⟨k + 1, by omega, by go_num, rfl, HT2, by ((repeat (first | (with_reducible exact Below.refl _ _) | (with_reducible assumption) | (with_reducible refine Below.alloc ?_ ?_ _) | (with_reducible refine Below.setCell ?_ ?_ _) | (with_reducible refine Below.drew ?_) | (with_reducible refine below_setRow ?_ ?_ _) | (refine Below.trans ?_ (Below.mono (by assumption) ?_)))); all_goals (first | omega | (simp; done) | (simp; omega)))⟩
          case measure => simp [intOf]; omega
        · have hd : decide (e = f) = false := by simp [hef]
          have HS := Lib.hid (show decide (xs = ys) = false by
            simp only [decide_eq_false_iff_not]; intro hxy; subst hxy; apply hef; have h1 := HE.out; rw [HF.out] at h1; simpa using h1.symm)
          clear hef
          go_wp2_with fail
          (refine wp_region_ext (by kernel_rfl) (by kernel_rfl) ?_; (repeat (go_big_quiet_step (first | (go_at_call 183; refine Calls.ext_of (eqRawField_any e f _))))); refine wpQuiet_nil ?_; intro w1 hb1; obtain ⟨hc1, hf1⟩ := bcell hb1; have hz1 := hb1.size; (try simp only [World.size_alloc, World.size_setCell, World.size_drew] at hz1))
          go_wp2
          go_ret
          exact ⟨ret_bool HS.out.symm, by ((repeat (first | (with_reducible exact Below.refl _ _) | (with_reducible assumption) | (with_reducible refine Below.alloc ?_ ?_ _) | (with_reducible refine Below.setCell ?_ ?_ _) | (with_reducible refine Below.drew ?_) | (with_reducible refine below_setRow ?_ ?_ _) | (refine Below.trans ?_ (Below.mono (by assumption) ?_)))); all_goals (first | omega | (simp; done) | (simp; omega)))⟩
      · have HS := Lib.hid (show decide (xs = ys) = true by
          have := HT.out; rw [List.take_of_length_le (by rw [HX.out]; omega), List.take_of_length_le (by rw [HY.out]; omega)] at this; simp [this])
        go_wp2
        go_ret
        exact ⟨ret_bool HS.out.symm, hb⟩
  · have HS := Lib.hid (show decide (xs = ys) = false by
      simp only [decide_eq_false_iff_not]; intro hxy; subst hxy; exact hl (HX.out.symm.trans HY.out))
    have hl' : ((n : Int) != (n' : Int)) = true := by simp; omega
    go_enter Try.func170, Try.ntmps170
    go_wp2
    go_ret
    exact ⟨ret_bool HS.out.symm, Below.refl _ _⟩

end Go.Proofs.Ytbgejldjgkihaaa

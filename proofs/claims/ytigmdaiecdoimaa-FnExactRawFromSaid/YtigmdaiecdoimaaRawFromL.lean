/- FnExactRawFrom: for every schema the program's RawFrom returns what the reference's returns, in memory of its own, and the schema that was handed in is left as it was. No condition. -/
import Derived.Test.YtigmdaiecdoimaaRawF
namespace Go.Proofs.Ytigmdaiecdoimaa.fnExactRawFrom
set_option linter.unusedSimpArgs false
set_option linter.unusedVariables false
open Go.ChangeShapes Go.WideShapes Go.ChangeAt Go.RowKit Go.BigFrame

theorem box_chgR {w w' : World} {B lo hi : Nat} {cs : Array Value} (hc : Chg lo hi w w') (hB : B < w.heap.size) (hd : B < lo ∨ hi ≤ B) (k : ∀ i, w.cell? ⟨B, i, none⟩ = cs[i]?) : ∀ i, w'.cell? ⟨B, i, none⟩ = cs[i]? :=
  fun i => (World.cell?_of_block (a := ⟨B, i, none⟩) (hc.block B hB hd)).trans (k i)
theorem schMark_N (a : Option Addr) (cap n : Nat) (rs : List ShR) (xs : List Shp) (lo hi N : Nat) (w : World) (ho : OwnSh w lo hi a n rs xs) (hn : n ≤ 1048576) (hm : fldSum xs ≤ 1048576) (hN : kS 1 xs n = N) :
    Calls Try.prog 28 #[.agg #[.slice a n cap], .int .i64 1] w fun r w' => r = .returned (.int .i64 (N : Int)) ∧ (∃ rs', OwnSh w' lo hi a n rs' (marksS 1 xs)) ∧ Chg lo hi w w' := by
  subst hN
  refine (markSchema_any a cap n rs xs 1 1 rfl lo hi w ho hn hm (by omega) (by omega)).mono ?_
  rintro r w' ⟨hr, ⟨rs', h1, _⟩, hc⟩
  exact ⟨hr, ⟨rs', h1⟩, hc.toChg fun b hb => ho.blk hb⟩
theorem rawMark_N (a : Option Addr) (cap n : Nat) (rs : List ShR) (xs : List Shp) (lo hi N : Nat) (w : World) (ho : OwnSh w lo hi a n rs xs) (hn : n ≤ 1048576) (hm : fldSum xs ≤ 1048576) (hN : kS 1 xs n = N) :
    Calls Try.prog 29 #[.agg #[.slice a n cap], .int .i64 1] w fun r w' => r = .returned (.int .i64 (N : Int)) ∧ (∃ rs', OwnSh w' lo hi a n rs' (marksS 1 xs)) ∧ Chg lo hi w w' := by
  subst hN
  refine (markRaw_any a cap n rs xs 1 1 rfl lo hi w ho hn hm (by omega) (by omega)).mono ?_
  rintro r w' ⟨hr, ⟨rs', h1, _⟩, hc⟩
  exact ⟨hr, ⟨rs', h1⟩, hc.toChg fun b hb => ho.blk hb⟩
theorem rawHeld_N (a : Option Addr) (cap n : Nat) (xs : List Shp) (N : Nat) (w : World) (h : Shs w a (marksS 1 xs)) (hx : xs.length = n) (hn : n ≤ 1048576) (hm : fldSum xs ≤ 1048576) (hN : kS 1 xs n = N) :
    Calls Try.prog 30 #[.agg #[.slice a n cap], .int .i64 1] w fun r w' => r = .returned (.int .i64 (N : Int)) ∧ Below w.heap.size w w' := by
  subst hN
  exact heldRaw_any a cap n xs 1 1 rfl w h hx hn hm (by omega) (by omega)
set_option maxRecDepth 100000 in
set_option maxHeartbeats 4000000 in
theorem walk (w : World) (x : ShArg) (hx : x.ok w) :
    Calls Try.prog 5 #[.agg #[x.sl]] w fun r w' => r = .returned (.bool true) ∧ Below w.heap.size w w' := by
  obtain ⟨a, cap, xs⟩ := x
  obtain ⟨hsl, hok, hle, hcap⟩ := hx
  simp only at hsl hok hle hcap
  have hmx : xs.length ≤ maxLen := Nat.le_trans hle hcap
  by_cases hs : (1048576 : Int) < (xs.length : Int) + fldSum xs
  · have hs' : szS 1048576 xs = -1 := by simp only [szS]; rw [if_pos hs]
    go_enter Try.func5, Try.ntmps5
    go_wp2_with fail
    refine (szSchema_any _ _ _ xs _ _ (by (first | assumption | exact Shs.keep (by assumption) (by ((repeat (first | (with_reducible exact Below.refl _ _) | (with_reducible assumption) | (with_reducible refine Below.alloc ?_ ?_ _) | (with_reducible refine Below.setCell ?_ ?_ _) | (with_reducible refine Below.drew ?_) | (with_reducible refine below_setRow ?_ ?_ _) | (refine Below.trans ?_ (Below.mono (by assumption) ?_)))); all_goals (first | omega | (simp; done) | (simp; omega)))) | exact Sl.keep (by assumption) (by ((repeat (first | (with_reducible exact Below.refl _ _) | (with_reducible assumption) | (with_reducible refine Below.alloc ?_ ?_ _) | (with_reducible refine Below.setCell ?_ ?_ _) | (with_reducible refine Below.drew ?_) | (with_reducible refine below_setRow ?_ ?_ _) | (refine Below.trans ?_ (Below.mono (by assumption) ?_)))); all_goals (first | omega | (simp; done) | (simp; omega)))))) hok rfl hmx (by omega) (by omega)).mono ?_
    rintro r w1 ⟨rfl, hb1⟩
    have hz1 := hb1.size
    try simp only [World.size_alloc, World.size_setCell, World.size_drew] at hz1
    have hb1b : Below w.heap.size w w1 := by ((repeat (first | (with_reducible exact Below.refl _ _) | (with_reducible assumption) | (with_reducible refine Below.alloc ?_ ?_ _) | (with_reducible refine Below.setCell ?_ ?_ _) | (with_reducible refine Below.drew ?_) | (with_reducible refine below_setRow ?_ ?_ _) | (refine Below.trans ?_ (Below.mono (by assumption) ?_)))); all_goals (first | omega | (simp; done) | (simp; omega)))
    have kA := box_new0 hb1
    have hBA := box_lt0 hb1
    try simp only [World.size_alloc, World.size_setCell, World.size_drew] at kA
    try simp only [World.size_alloc, World.size_setCell, World.size_drew] at hBA
    clear hb1; have hb1 := hb1b; clear hb1b
    go_wp2
    go_ret
    exact ⟨rfl, by ((repeat (first | (with_reducible exact Below.refl _ _) | (with_reducible assumption) | (with_reducible refine Below.alloc ?_ ?_ _) | (with_reducible refine Below.setCell ?_ ?_ _) | (with_reducible refine Below.drew ?_) | (with_reducible refine below_setRow ?_ ?_ _) | (refine Below.trans ?_ (Below.mono (by assumption) ?_)))); all_goals (first | omega | (simp; done) | (simp; omega)))⟩
  · have hn : xs.length ≤ 1048576 := by omega
    have hm : fldSum xs ≤ 1048576 := by omega
    have hs' : 0 ≤ szS 1048576 xs := by simp only [szS]; rw [if_neg hs]; omega
    obtain ⟨ys, hy⟩ : ∃ ys, rawFrom xs = ys := ⟨_, rfl⟩
    have hny : ys.length ≤ 1048576 := by rw [← hy]; exact Nat.le_trans (rawFrom_len xs) hn
    have hmy : fldSum ys ≤ 1048576 := by rw [← hy]; exact Nat.le_trans (rawFrom_sum xs) hm
    have HY := Lib.hid hy; clear hy
    obtain ⟨N4, hN4⟩ : ∃ N, kS 1 xs xs.length = N := ⟨_, rfl⟩
    obtain ⟨N5, hN5⟩ : ∃ N, kS 1 ys ys.length = N := ⟨_, rfl⟩
    have HN4 := Lib.hid hN4; clear hN4
    have HN5 := Lib.hid hN5; clear hN5
    go_enter Try.func5, Try.ntmps5
    go_wp2_with fail
    refine (szSchema_any a cap _ xs 1048576 _ (hsl.keep (by ((repeat (first | (with_reducible exact Below.refl _ _) | (with_reducible assumption) | (with_reducible refine Below.alloc ?_ ?_ _) | (with_reducible refine Below.setCell ?_ ?_ _) | (with_reducible refine Below.drew ?_) | (with_reducible refine below_setRow ?_ ?_ _) | (refine Below.trans ?_ (Below.mono (by assumption) ?_)))); all_goals (first | omega | (simp; done) | (simp; omega))))) hok rfl hmx (by omega) (by omega)).mono ?_
    rintro r w1 ⟨rfl, hb1⟩
    have hz1 := hb1.size
    try simp only [World.size_alloc, World.size_setCell, World.size_drew] at hz1
    have hb1b : Below w.heap.size w w1 := by ((repeat (first | (with_reducible exact Below.refl _ _) | (with_reducible assumption) | (with_reducible refine Below.alloc ?_ ?_ _) | (with_reducible refine Below.setCell ?_ ?_ _) | (with_reducible refine Below.drew ?_) | (with_reducible refine below_setRow ?_ ?_ _) | (refine Below.trans ?_ (Below.mono (by assumption) ?_)))); all_goals (first | omega | (simp; done) | (simp; omega)))
    have kA := box_new0 hb1
    have hBA := box_lt0 hb1
    try simp only [World.size_alloc, World.size_setCell, World.size_drew] at kA
    try simp only [World.size_alloc, World.size_setCell, World.size_drew] at hBA
    clear hb1; have hb1 := hb1b; clear hb1b
    have hT1 : Below w.heap.size w w1 := hb1
    go_wp2_with fail
    refine (toSchema_any a cap _ xs _ (hsl.keep (show Below w.heap.size w _ from by ((repeat (first | (with_reducible exact Below.refl _ _) | (with_reducible assumption) | (with_reducible refine Below.alloc ?_ ?_ _) | (with_reducible refine Below.setCell ?_ ?_ _) | (with_reducible refine Below.drew ?_) | (with_reducible refine below_setRow ?_ ?_ _) | (refine Below.trans ?_ (Below.mono (by assumption) ?_)))); all_goals (first | omega | (simp; done) | (simp; omega))))) rfl hn hm).mono ?_
    rintro r w2 ⟨a2, cap2, rs2, rfl, ho2, hb2⟩
    have hz2 := hb2.size
    try simp only [World.size_alloc, World.size_setCell, World.size_drew] at hz2
    have hb2b : Below w1.heap.size w1 w2 := by ((repeat (first | (with_reducible exact Below.refl _ _) | (with_reducible assumption) | (with_reducible refine Below.alloc ?_ ?_ _) | (with_reducible refine Below.setCell ?_ ?_ _) | (with_reducible refine Below.drew ?_) | (with_reducible refine below_setRow ?_ ?_ _) | (refine Below.trans ?_ (Below.mono (by assumption) ?_)))); all_goals (first | omega | (simp; done) | (simp; omega)))
    have kA_ := box_next hb2b hBA kA; clear kA
    have kA := kA_; clear kA_
    have hBA_ := Nat.lt_of_lt_of_le hBA hb2b.size; clear hBA; have hBA := hBA_; clear hBA_
    clear hb2; have hb2 := hb2b; clear hb2b
    have hT2 : Below w.heap.size w w2 := hT1.trans (hb2.mono hT1.size)
    have hoq2 := ho2; try simp only [World.size_alloc, World.size_setCell, World.size_drew] at hoq2
    have R2 := Lib.hid (OwnSh.of_own hoq2 (by have := hb2.size; omega) (by decide)); clear ho2 hoq2
    go_wp2_with fail
    refine (specRawFrom_any a2 cap2 _ xs _ ((R2.out.keep (show Below w2.heap.size w2 _ from by ((repeat (first | (with_reducible exact Below.refl _ _) | (with_reducible assumption) | (with_reducible refine Below.alloc ?_ ?_ _) | (with_reducible refine Below.setCell ?_ ?_ _) | (with_reducible refine Below.drew ?_) | (with_reducible refine below_setRow ?_ ?_ _) | (refine Below.trans ?_ (Below.mono (by assumption) ?_)))); all_goals (first | omega | (simp; done) | (simp; omega))))).shs) rfl hn hm).mono ?_
    rintro r w3 ⟨a3, cap3, rs3, rfl, ho3, hb3⟩
    have hz3 := hb3.size
    try simp only [World.size_alloc, World.size_setCell, World.size_drew] at hz3
    have hb3b : Below w2.heap.size w2 w3 := by ((repeat (first | (with_reducible exact Below.refl _ _) | (with_reducible assumption) | (with_reducible refine Below.alloc ?_ ?_ _) | (with_reducible refine Below.setCell ?_ ?_ _) | (with_reducible refine Below.drew ?_) | (with_reducible refine below_setRow ?_ ?_ _) | (refine Below.trans ?_ (Below.mono (by assumption) ?_)))); all_goals (first | omega | (simp; done) | (simp; omega)))
    have kA_ := box_next hb3b hBA kA; clear kA
    have kA := kA_; clear kA_
    have hBA_ := Nat.lt_of_lt_of_le hBA hb3b.size; clear hBA; have hBA := hBA_; clear hBA_
    clear hb3; have hb3 := hb3b; clear hb3b
    have hT3 : Below w.heap.size w w3 := hT2.trans (hb3.mono hT2.size)
    have R2_ := Lib.hid (R2.out.keep hb3); clear R2; have R2 := R2_; clear R2_
    rw [HY.out] at ho3 ⊢
    have hoq3 := ho3; try simp only [World.size_alloc, World.size_setCell, World.size_drew] at hoq3
    have R3 := Lib.hid (OwnSh.of_own hoq3 (by have := hb3.size; omega) (by decide)); clear ho3 hoq3
    clear R2
    go_wp2_with fail
    refine (toSchema_any a cap _ xs _ (hsl.keep (show Below w.heap.size w _ from by ((repeat (first | (with_reducible exact Below.refl _ _) | (with_reducible assumption) | (with_reducible refine Below.alloc ?_ ?_ _) | (with_reducible refine Below.setCell ?_ ?_ _) | (with_reducible refine Below.drew ?_) | (with_reducible refine below_setRow ?_ ?_ _) | (refine Below.trans ?_ (Below.mono (by assumption) ?_)))); all_goals (first | omega | (simp; done) | (simp; omega))))) rfl hn hm).mono ?_
    rintro r w4 ⟨a4, cap4, rs4, rfl, ho4, hb4⟩
    have hz4 := hb4.size
    try simp only [World.size_alloc, World.size_setCell, World.size_drew] at hz4
    have hb4b : Below w3.heap.size w3 w4 := by ((repeat (first | (with_reducible exact Below.refl _ _) | (with_reducible assumption) | (with_reducible refine Below.alloc ?_ ?_ _) | (with_reducible refine Below.setCell ?_ ?_ _) | (with_reducible refine Below.drew ?_) | (with_reducible refine below_setRow ?_ ?_ _) | (refine Below.trans ?_ (Below.mono (by assumption) ?_)))); all_goals (first | omega | (simp; done) | (simp; omega)))
    have kA_ := box_next hb4b hBA kA; clear kA
    have kA := kA_; clear kA_
    have hBA_ := Nat.lt_of_lt_of_le hBA hb4b.size; clear hBA; have hBA := hBA_; clear hBA_
    have kW := box_new0 hb4
    have hBW := box_lt0 hb4
    try simp only [World.size_alloc, World.size_setCell, World.size_drew] at kW
    try simp only [World.size_alloc, World.size_setCell, World.size_drew] at hBW
    clear hb4; have hb4 := hb4b; clear hb4b
    have hT4 : Below w.heap.size w w4 := hT3.trans (hb4.mono hT3.size)
    have R3_ := Lib.hid (R3.out.keep hb4); clear R3; have R3 := R3_; clear R3_
    have hoq4 := ho4; try simp only [World.size_alloc, World.size_setCell, World.size_drew] at hoq4
    have R4 := Lib.hid (OwnSh.of_own hoq4 (by have := hb4.size; omega) (by decide)); clear ho4 hoq4
    go_wp2_with fail
    refine (implRawFrom_any a4 cap4 _ xs _ ((R4.out.keep (show Below w4.heap.size w4 _ from by ((repeat (first | (with_reducible exact Below.refl _ _) | (with_reducible assumption) | (with_reducible refine Below.alloc ?_ ?_ _) | (with_reducible refine Below.setCell ?_ ?_ _) | (with_reducible refine Below.drew ?_) | (with_reducible refine below_setRow ?_ ?_ _) | (refine Below.trans ?_ (Below.mono (by assumption) ?_)))); all_goals (first | omega | (simp; done) | (simp; omega))))).shs) rfl hn hm).mono ?_
    rintro r w5 ⟨a5, cap5, rs5, rfl, ho5, hb5⟩
    have hz5 := hb5.size
    try simp only [World.size_alloc, World.size_setCell, World.size_drew] at hz5
    have hb5b : Below w4.heap.size w4 w5 := by ((repeat (first | (with_reducible exact Below.refl _ _) | (with_reducible assumption) | (with_reducible refine Below.alloc ?_ ?_ _) | (with_reducible refine Below.setCell ?_ ?_ _) | (with_reducible refine Below.drew ?_) | (with_reducible refine below_setRow ?_ ?_ _) | (refine Below.trans ?_ (Below.mono (by assumption) ?_)))); all_goals (first | omega | (simp; done) | (simp; omega)))
    have kA_ := box_next hb5b hBA kA; clear kA
    have kA := kA_; clear kA_
    have hBA_ := Nat.lt_of_lt_of_le hBA hb5b.size; clear hBA; have hBA := hBA_; clear hBA_
    have kW_ := box_next hb5b hBW kW; clear kW
    have kW := kW_; clear kW_
    have hBW_ := Nat.lt_of_lt_of_le hBW hb5b.size; clear hBW; have hBW := hBW_; clear hBW_
    have kX := box_new0 hb5
    have hBX := box_lt0 hb5
    try simp only [World.size_alloc, World.size_setCell, World.size_drew] at kX
    try simp only [World.size_alloc, World.size_setCell, World.size_drew] at hBX
    clear hb5; have hb5 := hb5b; clear hb5b
    have hT5 : Below w.heap.size w w5 := hT4.trans (hb5.mono hT4.size)
    have R3_ := Lib.hid (R3.out.keep hb5); clear R3; have R3 := R3_; clear R3_
    have R4_ := Lib.hid (R4.out.keep hb5); clear R4; have R4 := R4_; clear R4_
    rw [HY.out] at ho5 ⊢
    have hoq5 := ho5; try simp only [World.size_alloc, World.size_setCell, World.size_drew] at hoq5
    have R5 := Lib.hid (OwnSh.of_own hoq5 (by have := hb5.size; omega) (by decide)); clear ho5 hoq5
    go_wp2_with fail
    refine (eqRaw_same _ _ _ _ _ ys _ ((R5.out.keep (show Below w5.heap.size w5 _ from by ((repeat (first | (with_reducible exact Below.refl _ _) | (with_reducible assumption) | (with_reducible refine Below.alloc ?_ ?_ _) | (with_reducible refine Below.setCell ?_ ?_ _) | (with_reducible refine Below.drew ?_) | (with_reducible refine below_setRow ?_ ?_ _) | (refine Below.trans ?_ (Below.mono (by assumption) ?_)))); all_goals (first | omega | (simp; done) | (simp; omega))))).shs) ((R3.out.keep (show Below w5.heap.size w5 _ from by ((repeat (first | (with_reducible exact Below.refl _ _) | (with_reducible assumption) | (with_reducible refine Below.alloc ?_ ?_ _) | (with_reducible refine Below.setCell ?_ ?_ _) | (with_reducible refine Below.drew ?_) | (with_reducible refine below_setRow ?_ ?_ _) | (refine Below.trans ?_ (Below.mono (by assumption) ?_)))); all_goals (first | omega | (simp; done) | (simp; omega))))).shs) rfl hny hmy).mono ?_
    rintro r w6 ⟨rfl, hb6⟩
    have hz6 := hb6.size
    try simp only [World.size_alloc, World.size_setCell, World.size_drew] at hz6
    have hb6b : Below w5.heap.size w5 w6 := by ((repeat (first | (with_reducible exact Below.refl _ _) | (with_reducible assumption) | (with_reducible refine Below.alloc ?_ ?_ _) | (with_reducible refine Below.setCell ?_ ?_ _) | (with_reducible refine Below.drew ?_) | (with_reducible refine below_setRow ?_ ?_ _) | (refine Below.trans ?_ (Below.mono (by assumption) ?_)))); all_goals (first | omega | (simp; done) | (simp; omega)))
    have kA_ := box_next hb6b hBA kA; clear kA
    have kA := kA_; clear kA_
    have hBA_ := Nat.lt_of_lt_of_le hBA hb6b.size; clear hBA; have hBA := hBA_; clear hBA_
    have kW_ := box_next hb6b hBW kW; clear kW
    have kW := kW_; clear kW_
    have hBW_ := Nat.lt_of_lt_of_le hBW hb6b.size; clear hBW; have hBW := hBW_; clear hBW_
    have kX_ := box_next hb6b hBX kX; clear kX
    have kX := kX_; clear kX_
    have hBX_ := Nat.lt_of_lt_of_le hBX hb6b.size; clear hBX; have hBX := hBX_; clear hBX_
    have kG := box_new0 hb6
    have hBG := box_lt0 hb6
    try simp only [World.size_alloc, World.size_setCell, World.size_drew] at kG
    try simp only [World.size_alloc, World.size_setCell, World.size_drew] at hBG
    clear hb6; have hb6 := hb6b; clear hb6b
    have hT6 : Below w.heap.size w w6 := hT5.trans (hb6.mono hT5.size)
    have R3_ := Lib.hid (R3.out.keep hb6); clear R3; have R3 := R3_; clear R3_
    have R4_ := Lib.hid (R4.out.keep hb6); clear R4; have R4 := R4_; clear R4_
    have R5_ := Lib.hid (R5.out.keep hb6); clear R5; have R5 := R5_; clear R5_
    go_wp2_with fail
    go_region_held3 (fun w' => (∀ i, w'.cell? ⟨w4.heap.size, i, none⟩ = (#[.slice a4 xs.length cap4] : Array Value)[i]?) ∧ (∀ i, w'.cell? ⟨w.heap.size, i, none⟩ = (#[.slice a xs.length cap] : Array Value)[i]?) ∧ (∀ i, w'.cell? ⟨w3.heap.size, i, none⟩ = (#[.slice a3 ys.length cap3] : Array Value)[i]?) ∧ (∀ i, w'.cell? ⟨w5.heap.size, i, none⟩ = (#[.slice a5 ys.length cap5] : Array Value)[i]?) ∧ Below w6.heap.size w6 w') (first | assumption | exact ⟨kX, kA, kW, kG, (Below.refl _ _).drew⟩) (first | (go_at_call 24; have hS7a := held_last4 (by assumption); have hs7a_ := hS7a.size; refine (toSchema_any a cap _ xs _ (hsl.keep (show Below w.heap.size w _ from hT6.trans (Below.mono (by assumption) hT6.size))) rfl hn hm).mono ?_; rintro r w7a ⟨a7a, cap7a, rs7a, rfl, ho7a, hb7a⟩; have hz7a := hb7a.size; have hT7a := held_next4 (by assumption) hb7a (by omega) (by omega) (by omega) (by omega); have hs7a := ho7a.shs; clear ho7a) | (go_at_call 27; have hS7b := held_last4 (by assumption); have hs7b_ := hS7b.size; refine (eqSchema_same _ _ _ _ _ xs _ ((R4.out.keep (by assumption)).shs) (by (first | assumption | exact Shs.keep (by assumption) (by ((repeat (first | (with_reducible exact Below.refl _ _) | (with_reducible assumption) | (with_reducible refine Below.alloc ?_ ?_ _) | (with_reducible refine Below.setCell ?_ ?_ _) | (with_reducible refine Below.drew ?_) | (with_reducible refine below_setRow ?_ ?_ _) | (refine Below.trans ?_ (Below.mono (by assumption) ?_)))); all_goals (first | omega | (simp; done) | (simp; omega)))) | exact Sl.keep (by assumption) (by ((repeat (first | (with_reducible exact Below.refl _ _) | (with_reducible assumption) | (with_reducible refine Below.alloc ?_ ?_ _) | (with_reducible refine Below.setCell ?_ ?_ _) | (with_reducible refine Below.drew ?_) | (with_reducible refine below_setRow ?_ ?_ _) | (refine Below.trans ?_ (Below.mono (by assumption) ?_)))); all_goals (first | omega | (simp; done) | (simp; omega)))))) rfl hn hm).mono ?_; rintro r w7b ⟨rfl, hb7b⟩; have hz7b := hb7b.size; have hT7b := held_next4 (by assumption) hb7b (by omega) (by omega) (by omega) (by omega); skip))
    obtain ⟨kX_, kA_, kW_, kG_, hbT7⟩ := hT7b
    clear kX; have kX := kX_; clear kX_
    have hBX_ := Nat.lt_of_lt_of_le hBX hbT7.size; clear hBX; have hBX := hBX_; clear hBX_
    clear kA; have kA := kA_; clear kA_
    have hBA_ := Nat.lt_of_lt_of_le hBA hbT7.size; clear hBA; have hBA := hBA_; clear hBA_
    clear kW; have kW := kW_; clear kW_
    have hBW_ := Nat.lt_of_lt_of_le hBW hbT7.size; clear hBW; have hBW := hBW_; clear hBW_
    clear kG; have kG := kG_; clear kG_
    have hBG_ := Nat.lt_of_lt_of_le hBG hbT7.size; clear hBG; have hBG := hBG_; clear hBG_
    have hT7 : Below w.heap.size w w7b := hT6.trans (hbT7.mono hT6.size)
    have R3_ := Lib.hid (R3.out.keep hbT7); clear R3; have R3 := R3_; clear R3_
    have R4_ := Lib.hid (R4.out.keep hbT7); clear R4; have R4 := R4_; clear R4_
    have R5_ := Lib.hid (R5.out.keep hbT7); clear R5; have R5 := R5_; clear R5_
    have hz7 := hbT7.size
    have hT7b := hT7
    go_wp2_with fail
    refine (schMark_N a4 cap4 _ rs4 xs _ _ N4 _ (R4.out.keep (show Below w7b.heap.size w7b _ from by ((repeat (first | (with_reducible exact Below.refl _ _) | (with_reducible assumption) | (with_reducible refine Below.alloc ?_ ?_ _) | (with_reducible refine Below.setCell ?_ ?_ _) | (with_reducible refine Below.drew ?_) | (with_reducible refine below_setRow ?_ ?_ _) | (refine Below.trans ?_ (Below.mono (by assumption) ?_)))); all_goals (first | omega | (simp; done) | (simp; omega))))) hn hm HN4.out).mono ?_
    rintro r w8 ⟨rfl, ⟨rs4', h4'⟩, hc8⟩
    have hz8 := hc8.size
    have hT8 : Below w.heap.size w w8 := hT7b.trans ((hc8.below (by omega)).mono (by omega))
    have kA_ := box_chgR hc8 hBA (by omega) kA; clear kA; have kA := kA_; clear kA_; have hBA_ := Nat.lt_of_lt_of_le hBA hz8; clear hBA; have hBA := hBA_; clear hBA_
    have kW_ := box_chgR hc8 hBW (by omega) kW; clear kW; have kW := kW_; clear kW_; have hBW_ := Nat.lt_of_lt_of_le hBW hz8; clear hBW; have hBW := hBW_; clear hBW_
    have kX_ := box_chgR hc8 hBX (by omega) kX; clear kX; have kX := kX_; clear kX_; have hBX_ := Nat.lt_of_lt_of_le hBX hz8; clear hBX; have hBX := hBX_; clear hBX_
    have kG_ := box_chgR hc8 hBG (by omega) kG; clear kG; have kG := kG_; clear kG_; have hBG_ := Nat.lt_of_lt_of_le hBG hz8; clear hBG; have hBG := hBG_; clear hBG_
    have R3_ := Lib.hid (R3.out.chg hc8 (by omega)); clear R3; have R3 := R3_; clear R3_
    have R5_ := Lib.hid (R5.out.chg hc8 (by omega)); clear R5; have R5 := R5_; clear R5_
    clear R4 h4'
    go_wp2_with fail
    refine (eqRaw_same _ _ _ _ _ ys _ ((R5.out.keep (show Below w8.heap.size w8 _ from by ((repeat (first | (with_reducible exact Below.refl _ _) | (with_reducible assumption) | (with_reducible refine Below.alloc ?_ ?_ _) | (with_reducible refine Below.setCell ?_ ?_ _) | (with_reducible refine Below.drew ?_) | (with_reducible refine below_setRow ?_ ?_ _) | (refine Below.trans ?_ (Below.mono (by assumption) ?_)))); all_goals (first | omega | (simp; done) | (simp; omega))))).shs) ((R3.out.keep (show Below w8.heap.size w8 _ from by ((repeat (first | (with_reducible exact Below.refl _ _) | (with_reducible assumption) | (with_reducible refine Below.alloc ?_ ?_ _) | (with_reducible refine Below.setCell ?_ ?_ _) | (with_reducible refine Below.drew ?_) | (with_reducible refine below_setRow ?_ ?_ _) | (refine Below.trans ?_ (Below.mono (by assumption) ?_)))); all_goals (first | omega | (simp; done) | (simp; omega))))).shs) rfl hny hmy).mono ?_
    rintro r w9 ⟨rfl, hb9⟩
    have hz9 := hb9.size
    try simp only [World.size_alloc, World.size_setCell, World.size_drew] at hz9
    have hb9b : Below w8.heap.size w8 w9 := by ((repeat (first | (with_reducible exact Below.refl _ _) | (with_reducible assumption) | (with_reducible refine Below.alloc ?_ ?_ _) | (with_reducible refine Below.setCell ?_ ?_ _) | (with_reducible refine Below.drew ?_) | (with_reducible refine below_setRow ?_ ?_ _) | (refine Below.trans ?_ (Below.mono (by assumption) ?_)))); all_goals (first | omega | (simp; done) | (simp; omega)))
    have kA_ := box_next hb9b hBA kA; clear kA
    have kA := kA_; clear kA_
    have hBA_ := Nat.lt_of_lt_of_le hBA hb9b.size; clear hBA; have hBA := hBA_; clear hBA_
    have kW_ := box_next hb9b hBW kW; clear kW
    have kW := kW_; clear kW_
    have hBW_ := Nat.lt_of_lt_of_le hBW hb9b.size; clear hBW; have hBW := hBW_; clear hBW_
    have kX_ := box_next hb9b hBX kX; clear kX
    have kX := kX_; clear kX_
    have hBX_ := Nat.lt_of_lt_of_le hBX hb9b.size; clear hBX; have hBX := hBX_; clear hBX_
    have kG_ := box_next hb9b hBG kG; clear kG
    have kG := kG_; clear kG_
    have hBG_ := Nat.lt_of_lt_of_le hBG hb9b.size; clear hBG; have hBG := hBG_; clear hBG_
    clear hb9; have hb9 := hb9b; clear hb9b
    have hT9 : Below w.heap.size w w9 := hT8.trans (hb9.mono hT8.size)
    have R3_ := Lib.hid (R3.out.keep hb9); clear R3; have R3 := R3_; clear R3_
    have R5_ := Lib.hid (R5.out.keep hb9); clear R5; have R5 := R5_; clear R5_
    go_wp2_with fail
    refine (rawMark_N a5 cap5 _ rs5 ys _ _ N5 _ (R5.out.keep (show Below w9.heap.size w9 _ from by ((repeat (first | (with_reducible exact Below.refl _ _) | (with_reducible assumption) | (with_reducible refine Below.alloc ?_ ?_ _) | (with_reducible refine Below.setCell ?_ ?_ _) | (with_reducible refine Below.drew ?_) | (with_reducible refine below_setRow ?_ ?_ _) | (refine Below.trans ?_ (Below.mono (by assumption) ?_)))); all_goals (first | omega | (simp; done) | (simp; omega))))) hny hmy HN5.out).mono ?_
    rintro r w10 ⟨rfl, ⟨rs5', h5'⟩, hc10⟩
    have hz10 := hc10.size
    have hT10 : Below w.heap.size w w10 := hT9.trans ((hc10.below (by omega)).mono (by omega))
    have kA_ := box_chgR hc10 hBA (by omega) kA; clear kA; have kA := kA_; clear kA_; have hBA_ := Nat.lt_of_lt_of_le hBA hz10; clear hBA; have hBA := hBA_; clear hBA_
    have kW_ := box_chgR hc10 hBW (by omega) kW; clear kW; have kW := kW_; clear kW_; have hBW_ := Nat.lt_of_lt_of_le hBW hz10; clear hBW; have hBW := hBW_; clear hBW_
    have kX_ := box_chgR hc10 hBX (by omega) kX; clear kX; have kX := kX_; clear kX_; have hBX_ := Nat.lt_of_lt_of_le hBX hz10; clear hBX; have hBX := hBX_; clear hBX_
    have kG_ := box_chgR hc10 hBG (by omega) kG; clear kG; have kG := kG_; clear kG_; have hBG_ := Nat.lt_of_lt_of_le hBG hz10; clear hBG; have hBG := hBG_; clear hBG_
    have R3_ := Lib.hid (R3.out.chg hc10 (by omega)); clear R3; have R3 := R3_; clear R3_
    clear R5; have R5 := Lib.hid h5'; clear h5'
    go_wp2_with fail
    refine (rawHeld_N a5 cap5 _ ys N5 _ ((R5.out.keep (show Below w10.heap.size w10 _ from by ((repeat (first | (with_reducible exact Below.refl _ _) | (with_reducible assumption) | (with_reducible refine Below.alloc ?_ ?_ _) | (with_reducible refine Below.setCell ?_ ?_ _) | (with_reducible refine Below.drew ?_) | (with_reducible refine below_setRow ?_ ?_ _) | (refine Below.trans ?_ (Below.mono (by assumption) ?_)))); all_goals (first | omega | (simp; done) | (simp; omega))))).shs) rfl hny hmy HN5.out).mono ?_
    rintro r w11 ⟨rfl, hb11⟩
    have hz11 := hb11.size
    try simp only [World.size_alloc, World.size_setCell, World.size_drew] at hz11
    have hb11b : Below w10.heap.size w10 w11 := by ((repeat (first | (with_reducible exact Below.refl _ _) | (with_reducible assumption) | (with_reducible refine Below.alloc ?_ ?_ _) | (with_reducible refine Below.setCell ?_ ?_ _) | (with_reducible refine Below.drew ?_) | (with_reducible refine below_setRow ?_ ?_ _) | (refine Below.trans ?_ (Below.mono (by assumption) ?_)))); all_goals (first | omega | (simp; done) | (simp; omega)))
    have kA_ := box_next hb11b hBA kA; clear kA
    have kA := kA_; clear kA_
    have hBA_ := Nat.lt_of_lt_of_le hBA hb11b.size; clear hBA; have hBA := hBA_; clear hBA_
    have kW_ := box_next hb11b hBW kW; clear kW
    have kW := kW_; clear kW_
    have hBW_ := Nat.lt_of_lt_of_le hBW hb11b.size; clear hBW; have hBW := hBW_; clear hBW_
    have kX_ := box_next hb11b hBX kX; clear kX
    have kX := kX_; clear kX_
    have hBX_ := Nat.lt_of_lt_of_le hBX hb11b.size; clear hBX; have hBX := hBX_; clear hBX_
    have kG_ := box_next hb11b hBG kG; clear kG
    have kG := kG_; clear kG_
    have hBG_ := Nat.lt_of_lt_of_le hBG hb11b.size; clear hBG; have hBG := hBG_; clear hBG_
    clear hb11; have hb11 := hb11b; clear hb11b
    have hT11 : Below w.heap.size w w11 := hT10.trans (hb11.mono hT10.size)
    have R3_ := Lib.hid (R3.out.keep hb11); clear R3; have R3 := R3_; clear R3_
    have R5_ := Lib.hid (R5.out.keep hb11); clear R5; have R5 := R5_; clear R5_
    go_wp2_with fail
    refine (toSchema_any a cap _ xs _ (hsl.keep (show Below w.heap.size w _ from by ((repeat (first | (with_reducible exact Below.refl _ _) | (with_reducible assumption) | (with_reducible refine Below.alloc ?_ ?_ _) | (with_reducible refine Below.setCell ?_ ?_ _) | (with_reducible refine Below.drew ?_) | (with_reducible refine below_setRow ?_ ?_ _) | (refine Below.trans ?_ (Below.mono (by assumption) ?_)))); all_goals (first | omega | (simp; done) | (simp; omega))))) rfl hn hm).mono ?_
    rintro r w12 ⟨a12, cap12, rs12, rfl, ho12, hb12⟩
    have hz12 := hb12.size
    try simp only [World.size_alloc, World.size_setCell, World.size_drew] at hz12
    have hb12b : Below w11.heap.size w11 w12 := by ((repeat (first | (with_reducible exact Below.refl _ _) | (with_reducible assumption) | (with_reducible refine Below.alloc ?_ ?_ _) | (with_reducible refine Below.setCell ?_ ?_ _) | (with_reducible refine Below.drew ?_) | (with_reducible refine below_setRow ?_ ?_ _) | (refine Below.trans ?_ (Below.mono (by assumption) ?_)))); all_goals (first | omega | (simp; done) | (simp; omega)))
    have kA_ := box_next hb12b hBA kA; clear kA
    have kA := kA_; clear kA_
    have hBA_ := Nat.lt_of_lt_of_le hBA hb12b.size; clear hBA; have hBA := hBA_; clear hBA_
    have kW_ := box_next hb12b hBW kW; clear kW
    have kW := kW_; clear kW_
    have hBW_ := Nat.lt_of_lt_of_le hBW hb12b.size; clear hBW; have hBW := hBW_; clear hBW_
    have kX_ := box_next hb12b hBX kX; clear kX
    have kX := kX_; clear kX_
    have hBX_ := Nat.lt_of_lt_of_le hBX hb12b.size; clear hBX; have hBX := hBX_; clear hBX_
    have kG_ := box_next hb12b hBG kG; clear kG
    have kG := kG_; clear kG_
    have hBG_ := Nat.lt_of_lt_of_le hBG hb12b.size; clear hBG; have hBG := hBG_; clear hBG_
    clear hb12; have hb12 := hb12b; clear hb12b
    have hT12 : Below w.heap.size w w12 := hT11.trans (hb12.mono hT11.size)
    have R3_ := Lib.hid (R3.out.keep hb12); clear R3; have R3 := R3_; clear R3_
    have R5_ := Lib.hid (R5.out.keep hb12); clear R5; have R5 := R5_; clear R5_
    have hoq12 := ho12; try simp only [World.size_alloc, World.size_setCell, World.size_drew] at hoq12
    have R12 := Lib.hid (OwnSh.of_own hoq12 (by have := hb12.size; omega) (by decide)); clear ho12 hoq12
    go_wp2_with fail
    refine (implRawFrom_any a12 cap12 _ xs _ ((R12.out.keep (show Below w12.heap.size w12 _ from by ((repeat (first | (with_reducible exact Below.refl _ _) | (with_reducible assumption) | (with_reducible refine Below.alloc ?_ ?_ _) | (with_reducible refine Below.setCell ?_ ?_ _) | (with_reducible refine Below.drew ?_) | (with_reducible refine below_setRow ?_ ?_ _) | (refine Below.trans ?_ (Below.mono (by assumption) ?_)))); all_goals (first | omega | (simp; done) | (simp; omega))))).shs) rfl hn hm).mono ?_
    rintro r w13 ⟨a13, cap13, rs13, rfl, ho13, hb13⟩
    have hz13 := hb13.size
    try simp only [World.size_alloc, World.size_setCell, World.size_drew] at hz13
    have hb13b : Below w12.heap.size w12 w13 := by ((repeat (first | (with_reducible exact Below.refl _ _) | (with_reducible assumption) | (with_reducible refine Below.alloc ?_ ?_ _) | (with_reducible refine Below.setCell ?_ ?_ _) | (with_reducible refine Below.drew ?_) | (with_reducible refine below_setRow ?_ ?_ _) | (refine Below.trans ?_ (Below.mono (by assumption) ?_)))); all_goals (first | omega | (simp; done) | (simp; omega)))
    have kA_ := box_next hb13b hBA kA; clear kA
    have kA := kA_; clear kA_
    have hBA_ := Nat.lt_of_lt_of_le hBA hb13b.size; clear hBA; have hBA := hBA_; clear hBA_
    have kW_ := box_next hb13b hBW kW; clear kW
    have kW := kW_; clear kW_
    have hBW_ := Nat.lt_of_lt_of_le hBW hb13b.size; clear hBW; have hBW := hBW_; clear hBW_
    have kX_ := box_next hb13b hBX kX; clear kX
    have kX := kX_; clear kX_
    have hBX_ := Nat.lt_of_lt_of_le hBX hb13b.size; clear hBX; have hBX := hBX_; clear hBX_
    have kG_ := box_next hb13b hBG kG; clear kG
    have kG := kG_; clear kG_
    have hBG_ := Nat.lt_of_lt_of_le hBG hb13b.size; clear hBG; have hBG := hBG_; clear hBG_
    clear hb13; have hb13 := hb13b; clear hb13b
    have hT13 : Below w.heap.size w w13 := hT12.trans (hb13.mono hT12.size)
    have R3_ := Lib.hid (R3.out.keep hb13); clear R3; have R3 := R3_; clear R3_
    have R5_ := Lib.hid (R5.out.keep hb13); clear R5; have R5 := R5_; clear R5_
    have R12_ := Lib.hid (R12.out.keep hb13); clear R12; have R12 := R12_; clear R12_
    rw [HY.out] at ho13 ⊢
    have hoq13 := ho13; try simp only [World.size_alloc, World.size_setCell, World.size_drew] at hoq13
    have R13 := Lib.hid (OwnSh.of_own hoq13 (by have := hb13.size; omega) (by decide)); clear ho13 hoq13
    clear R12
    go_wp2_with fail
    refine (eqRaw_same _ _ _ _ _ ys _ ((R13.out.keep (show Below w13.heap.size w13 _ from by ((repeat (first | (with_reducible exact Below.refl _ _) | (with_reducible assumption) | (with_reducible refine Below.alloc ?_ ?_ _) | (with_reducible refine Below.setCell ?_ ?_ _) | (with_reducible refine Below.drew ?_) | (with_reducible refine below_setRow ?_ ?_ _) | (refine Below.trans ?_ (Below.mono (by assumption) ?_)))); all_goals (first | omega | (simp; done) | (simp; omega))))).shs) ((R3.out.keep (show Below w13.heap.size w13 _ from by ((repeat (first | (with_reducible exact Below.refl _ _) | (with_reducible assumption) | (with_reducible refine Below.alloc ?_ ?_ _) | (with_reducible refine Below.setCell ?_ ?_ _) | (with_reducible refine Below.drew ?_) | (with_reducible refine below_setRow ?_ ?_ _) | (refine Below.trans ?_ (Below.mono (by assumption) ?_)))); all_goals (first | omega | (simp; done) | (simp; omega))))).shs) rfl hny hmy).mono ?_
    rintro r w14 ⟨rfl, hb14⟩
    have hz14 := hb14.size
    try simp only [World.size_alloc, World.size_setCell, World.size_drew] at hz14
    have hb14b : Below w13.heap.size w13 w14 := by ((repeat (first | (with_reducible exact Below.refl _ _) | (with_reducible assumption) | (with_reducible refine Below.alloc ?_ ?_ _) | (with_reducible refine Below.setCell ?_ ?_ _) | (with_reducible refine Below.drew ?_) | (with_reducible refine below_setRow ?_ ?_ _) | (refine Below.trans ?_ (Below.mono (by assumption) ?_)))); all_goals (first | omega | (simp; done) | (simp; omega)))
    have kA_ := box_next hb14b hBA kA; clear kA
    have kA := kA_; clear kA_
    have hBA_ := Nat.lt_of_lt_of_le hBA hb14b.size; clear hBA; have hBA := hBA_; clear hBA_
    have kW_ := box_next hb14b hBW kW; clear kW
    have kW := kW_; clear kW_
    have hBW_ := Nat.lt_of_lt_of_le hBW hb14b.size; clear hBW; have hBW := hBW_; clear hBW_
    have kX_ := box_next hb14b hBX kX; clear kX
    have kX := kX_; clear kX_
    have hBX_ := Nat.lt_of_lt_of_le hBX hb14b.size; clear hBX; have hBX := hBX_; clear hBX_
    have kG_ := box_next hb14b hBG kG; clear kG
    have kG := kG_; clear kG_
    have hBG_ := Nat.lt_of_lt_of_le hBG hb14b.size; clear hBG; have hBG := hBG_; clear hBG_
    have kH := box_new0 hb14
    have hBH := box_lt0 hb14
    try simp only [World.size_alloc, World.size_setCell, World.size_drew] at kH
    try simp only [World.size_alloc, World.size_setCell, World.size_drew] at hBH
    clear hb14; have hb14 := hb14b; clear hb14b
    have hT14 : Below w.heap.size w w14 := hT13.trans (hb14.mono hT13.size)
    have R3_ := Lib.hid (R3.out.keep hb14); clear R3; have R3 := R3_; clear R3_
    have R5_ := Lib.hid (R5.out.keep hb14); clear R5; have R5 := R5_; clear R5_
    have R13_ := Lib.hid (R13.out.keep hb14); clear R13; have R13 := R13_; clear R13_
    go_wp2_with fail
    refine (rawHeld_N a5 cap5 _ ys N5 _ ((R5.out.keep (show Below w14.heap.size w14 _ from by ((repeat (first | (with_reducible exact Below.refl _ _) | (with_reducible assumption) | (with_reducible refine Below.alloc ?_ ?_ _) | (with_reducible refine Below.setCell ?_ ?_ _) | (with_reducible refine Below.drew ?_) | (with_reducible refine below_setRow ?_ ?_ _) | (refine Below.trans ?_ (Below.mono (by assumption) ?_)))); all_goals (first | omega | (simp; done) | (simp; omega))))).shs) rfl hny hmy HN5.out).mono ?_
    rintro r w15 ⟨rfl, hb15⟩
    have hz15 := hb15.size
    try simp only [World.size_alloc, World.size_setCell, World.size_drew] at hz15
    have hb15b : Below w14.heap.size w14 w15 := by ((repeat (first | (with_reducible exact Below.refl _ _) | (with_reducible assumption) | (with_reducible refine Below.alloc ?_ ?_ _) | (with_reducible refine Below.setCell ?_ ?_ _) | (with_reducible refine Below.drew ?_) | (with_reducible refine below_setRow ?_ ?_ _) | (refine Below.trans ?_ (Below.mono (by assumption) ?_)))); all_goals (first | omega | (simp; done) | (simp; omega)))
    have kA_ := box_next hb15b hBA kA; clear kA
    have kA := kA_; clear kA_
    have hBA_ := Nat.lt_of_lt_of_le hBA hb15b.size; clear hBA; have hBA := hBA_; clear hBA_
    have kW_ := box_next hb15b hBW kW; clear kW
    have kW := kW_; clear kW_
    have hBW_ := Nat.lt_of_lt_of_le hBW hb15b.size; clear hBW; have hBW := hBW_; clear hBW_
    have kX_ := box_next hb15b hBX kX; clear kX
    have kX := kX_; clear kX_
    have hBX_ := Nat.lt_of_lt_of_le hBX hb15b.size; clear hBX; have hBX := hBX_; clear hBX_
    have kG_ := box_next hb15b hBG kG; clear kG
    have kG := kG_; clear kG_
    have hBG_ := Nat.lt_of_lt_of_le hBG hb15b.size; clear hBG; have hBG := hBG_; clear hBG_
    have kH_ := box_next hb15b hBH kH; clear kH
    have kH := kH_; clear kH_
    have hBH_ := Nat.lt_of_lt_of_le hBH hb15b.size; clear hBH; have hBH := hBH_; clear hBH_
    clear hb15; have hb15 := hb15b; clear hb15b
    have hT15 : Below w.heap.size w w15 := hT14.trans (hb15.mono hT14.size)
    have R3_ := Lib.hid (R3.out.keep hb15); clear R3; have R3 := R3_; clear R3_
    have R5_ := Lib.hid (R5.out.keep hb15); clear R5; have R5 := R5_; clear R5_
    have R13_ := Lib.hid (R13.out.keep hb15); clear R13; have R13 := R13_; clear R13_
    go_wp2
    go_ret
    exact ⟨rfl, hT15⟩

set_option maxRecDepth 100000 in
theorem lifted (os : Os) (started : os.Started) (H : Type) (enc : TypeId × Value → H) :
    ReturnsInHanded {} Try.checked os 5 .any (Rows.fnExactRawFromSpec.pre6 enc Try.prog Try.f5 Rows.fnExactRawFromRow.domain false) (Rows.fnExactRawFromSpec.post enc Try.prog Try.f5 false true false false) := by
  refine returnsInHanded_of_change (C := Try.checked) own started (by kernel_rfl) Try.func5
    (ChangeSpec.witness6 (enc := enc) (C := Try.checked) false ⟨#[], #[.agg #[.slice none 0 0]], []⟩ 8 (by kernel_rfl) (by kernel_rfl) (by kernel_rfl) (by kernel_rfl)) ?_
  intro W base args ds gs before hval0 hW hcnd _
  have hval : ∀ (j : Nat) t v, Try.f5.params[j]? = some t → args[j]? = some v → Value.okWide Try.prog W .any base t v := hval0
  have hW' := hW
  obtain ⟨p, q, hA0, hV, rfl, hfz, hnd⟩ := hW
  have hA : DataW.TrodAll enc Try.prog W 0 (fun _ => true) true Try.f5.params.toList args.toList ds p := hA0
  rw [Try.params5] at hA hval
  obtain ⟨v0, vs0, d0, ds0, p0, q0, hargs, rfl, rfl, h0, r0⟩ := trodAll_cons hA
  obtain ⟨rfl, rfl, rfl⟩ := trodAll_nil r0
  obtain rfl : args = #[v0] := by cases args; simp_all
  obtain ⟨rfl, rfl⟩ := trodVars_none hV
  have k0 := h0
  have lt0 : ∀ x ∈ p0, x.block < W.heap.size := by obtain ⟨m, hm⟩ := k0; exact DataW.trod_lt m _ _ _ hm
  obtain ⟨x0, e0, w0⟩ := openSchema (hval 0 47 v0 rfl rfl) h0
  subst e0
  clear hA0 hval0
  refine (walk W x0 w0).mono fun e W' ⟨he, bel⟩ => ?_
  subst he
  exact ⟨_, rfl, _, _, _, [], _, [], hW', trodAll_mk1 (shut_bool Try.underlying4 _), (trodAll_cons_mk (Below.trod laidOut (by kernel_rfl) (of_decide_eq_true (by kernel_rfl)) k0 bel lt0) trodAll_mk0), rfl, bel.frame _, fun h => by cases h⟩

theorem over : Rows.fnExactRawFromRow.holds Try.pinned (OpenSpec.ofChange Rows.fnExactRawFromSpec) :=
  OpenClaim.holds_of_wide 5 Try.f5 rfl rfl rfl rfl rfl rfl rfl ⟨rfl, rfl, rfl, rfl, rfl⟩ rfl rfl rfl rfl rfl (by kernel_rfl) Try.func5 (by kernel_rfl)
    (of_decide_eq_true (by kernel_rfl)) (by unfold Func.isWrapper; first | (rw [if_pos (by decide +kernel)]; kernel_rfl) | (rw [if_neg (by decide +kernel)]; exact ⟨rfl, rfl⟩))
    (fun os started H enc _ => lifted os started H enc)

/-- The given statement. -/
theorem proved : Rows.FnExactRawFromSaid := over
end Go.Proofs.Ytigmdaiecdoimaa.fnExactRawFrom


/- FnExactCompile: for every description the program's Compile returns the schema and the violation that the reference's returns, the schema in memory of its own, and the description is left as it was. No condition. -/
import Derived.Test.YtbpilecgnfnndaaComp1
import Derived.Test.YtbpilecgnfnndaaComp2
import Derived.Test.YtbpilecgnfnndaaComp3
import Derived.Test.YtbpilecgnfnndaaComp4
import Derived.Test.YtbpilecgnfnndaaComp5
import Derived.Test.YtbpilecgnfnndaaComp6
namespace Go.Proofs.Ytbpilecgnfnndaa.fnExactCompile
set_option linter.unusedSimpArgs false
set_option linter.unusedVariables false
open Go.ChangeShapes Go.WideShapes Go.ChangeAt Go.RowKit Go.BigFrame
theorem box_chgR {w w' : World} {B lo hi : Nat} {cs : Array Value} (hc : Chg lo hi w w') (hB : B < w.heap.size) (hd : B < lo ∨ hi ≤ B) (k : ∀ i, w.cell? ⟨B, i, none⟩ = cs[i]?) : ∀ i, w'.cell? ⟨B, i, none⟩ = cs[i]? :=
  fun i => (World.cell?_of_block (a := ⟨B, i, none⟩) (hc.block B hB hd)).trans (k i)
theorem schMark_N (a : Option Addr) (cap n : Nat) (rs : List ShR) (xs : List Shp) (lo hi N : Nat) (w : World) (ho : OwnSh w lo hi a n rs xs) (hn : n ≤ 1048576) (hm : fldSum xs ≤ 1048576) (hN : kS 1 xs n = N) :
    Calls Try.prog 28 #[.agg #[.slice a n cap], .int .i64 1] w fun r w' => r = .returned (.int .i64 (N : Int)) ∧ (∃ rs', OwnSh w' lo hi a n rs' (marksS 1 xs)) ∧ Chg lo hi w w' := by
  subst hN
  refine (markSchema_any a cap n rs xs 1 1 rfl lo hi w ho hn hm (by omega) (by omega)).mono ?_
  rintro r w' ⟨hr, ⟨rs', h1, _⟩, hc⟩
  exact ⟨hr, ⟨rs', h1⟩, hc.toChg fun b hb => ho.blk hb⟩
theorem rawMark_N (a : Option Addr) (cap n : Nat) (rs : List ShR) (xs : List Shp) (lo hi N : Nat) (w : World) (ho : OwnSh w lo hi a n rs xs) (hn : n ≤ 1048576) (hm : fldSum xs ≤ 1048576) (hN : kS 1 xs n = N) :
    Calls Try.prog 27 #[.agg #[.slice a n cap], .int .i64 1] w fun r w' => r = .returned (.int .i64 (N : Int)) ∧ (∃ rs', OwnSh w' lo hi a n rs' (marksS 1 xs)) ∧ Chg lo hi w w' := by
  subst hN
  refine (markRaw_any a cap n rs xs 1 1 rfl lo hi w ho hn hm (by omega) (by omega)).mono ?_
  rintro r w' ⟨hr, ⟨rs', h1, _⟩, hc⟩
  exact ⟨hr, ⟨rs', h1⟩, hc.toChg fun b hb => ho.blk hb⟩
theorem schHeld_N (a : Option Addr) (cap n : Nat) (xs : List Shp) (N : Nat) (w : World) (h : Shs w a (marksS 1 xs)) (hx : xs.length = n) (hn : n ≤ 1048576) (hm : fldSum xs ≤ 1048576) (hN : kS 1 xs n = N) :
    Calls Try.prog 29 #[.agg #[.slice a n cap], .int .i64 1] w fun r w' => r = .returned (.int .i64 (N : Int)) ∧ Below w.heap.size w w' := by
  subst hN
  exact heldSchema_any a cap n xs 1 1 rfl w h hx hn hm (by omega) (by omega)
theorem eqVio_same (v0 v1 v2 : Int) (w : World) :
    Calls Try.prog 25 #[.agg #[.int .i64 v0, .int .i64 v1, .int .i64 v2], .agg #[.int .i64 v0, .int .i64 v1, .int .i64 v2]] w fun r w' => r = .returned (.bool true) ∧ Below w.heap.size w w' := by
  go_enter Try.func25, Try.ntmps25
  go_wp2
  go_ret
  exact ⟨rfl, by ((repeat (first | (with_reducible exact Below.refl _ _) | (with_reducible assumption) | (with_reducible refine Below.alloc ?_ ?_ _) | (with_reducible refine Below.setCell ?_ ?_ _) | (with_reducible refine Below.drew ?_) | (with_reducible refine below_setRow ?_ ?_ _) | (refine Below.trans ?_ (Below.mono (by assumption) ?_)))); all_goals (first | omega | (simp; done) | (simp; omega)))⟩
def CmpN (w : World) (ys : List Shp) (v0 v1 v2 : Int) (r : Ending) (w' : World) : Prop :=
  ∃ a' cap' rs, r = .returned (.tuple #[.agg #[.slice a' ys.length cap'], .agg #[.int .i64 v0, .int .i64 v1, .int .i64 v2]]) ∧ OwnShs w' w.heap.size 43 47 (.slice a' ys.length cap') ys.length rs ys ∧ Below w.heap.size w w'
theorem cmp_N {w w' : World} {xs ys : List Shp} {v0 v1 v2 : Int} {r : Ending} (h : FreshCmp w xs r w') (hy : compR xs = ys) (hv : firstV xs = (v0, v1, v2)) : CmpN w ys v0 v1 v2 r w' := by
  subst hy
  unfold FreshCmp at h
  rw [hv] at h
  exact h
theorem specCmp_N (a : Option Addr) (cap n : Nat) (xs ys : List Shp) (v0 v1 v2 : Int) (w : World) (h : ShsL w a xs) (hx : xs.length = n) (hn : n ≤ 1048576) (hm : fldSum xs ≤ 1048576) (hy : compR xs = ys) (hv : firstV xs = (v0, v1, v2)) :
    Calls Try.prog 22 #[.agg #[.slice a n cap]] w (CmpN w ys v0 v1 v2) :=
  (specCompile_any a cap n xs w h hx hn hm).mono fun r w' h' => cmp_N h' hy hv
theorem implCmp_N (a : Option Addr) (cap n : Nat) (xs ys : List Shp) (v0 v1 v2 : Int) (w : World) (h : ShsL w a xs) (hx : xs.length = n) (hn : n ≤ 1048576) (hcap : n ≤ cap) (hm : fldSum xs ≤ 1048576) (hy : compR xs = ys) (hv : firstV xs = (v0, v1, v2)) :
    Calls Try.prog 8 #[.agg #[.slice a n cap]] w (CmpN w ys v0 v1 v2) :=
  (implCompile_any a cap n xs w h hx hn hcap hm).mono fun r w' h' => cmp_N h' hy hv
theorem sum_mul : ∀ {xs : List Shp} {m : Nat}, (∀ x ∈ xs, x.flds.length ≤ m) → fldSum xs ≤ m * xs.length
  | [], m, _ => by simp [fldSum]
  | x :: xs, m, h => by
    have h1 := sum_mul (xs := xs) fun y hy => h y (List.mem_cons_of_mem _ hy)
    have h2 := h x (List.mem_cons_self ..)
    simp only [fldSum, List.map_cons, List.sum_cons, List.length_cons, Nat.mul_add] at h1 ⊢
    omega
theorem compR_bounds (xs : List Shp) : (compR xs).length ≤ 1048576 ∧ fldSum (compR xs) ≤ 1048576 := by
  by_cases hv : (firstV xs).1 = 0
  · have h := val_of hv
    rw [compR_ok hv, compS_len]
    have hn := h.n
    have := sum_mul (xs := compS xs) (m := 8) (fun y hy => by
      obtain ⟨k, hk⟩ := List.getElem?_of_mem hy
      obtain ⟨hkl, _⟩ := List.getElem?_eq_some_iff.1 hk
      rw [compS_len] at hkl
      have hkz : k < (sortI (xs.map Shp.id)).length := by rw [sortI_len, List.length_map]; exact hkl
      obtain ⟨x, hx, _, hc⟩ := compS_at h (List.getElem?_eq_getElem hkz)
      rw [hk] at hc
      obtain rfl := Option.some.inj hc
      have hp := (cflds_perm xs x.flds []).length_eq
      have := h.len hx
      simp only [List.nil_append, List.length_map] at hp
      simp only [hp]; exact this)
    rw [compS_len] at this
    omega
  · rw [compR_bad hv]; simp [fldSum]
set_option maxRecDepth 100000 in
set_option maxHeartbeats 8000000 in
theorem walk (w : World) (x : ShArg) (hx : x.ok w) :
    Calls Try.prog 5 #[.agg #[x.sl]] w fun r w' => r = .returned (.bool true) ∧ Below w.heap.size w w' := by
  obtain ⟨a, cap, xs⟩ := x
  obtain ⟨hsl, hok, hle, hcap⟩ := hx
  simp only at hsl hok hle hcap
  have hmx : xs.length ≤ maxLen := Nat.le_trans hle hcap
  by_cases hs : (1048576 : Int) < (xs.length : Int) + fldSum xs
  · have hs' : szS 1048576 xs = -1 := by simp only [szS]; rw [if_pos hs]
    go_enter Try.func5, Try.ntmps5
    go_wp2_with fail
    refine (szRaw_any _ _ _ xs _ _ (by (first | assumption | exact Shs.keep (by assumption) (by ((repeat (first | (with_reducible exact Below.refl _ _) | (with_reducible assumption) | (with_reducible refine Below.alloc ?_ ?_ _) | (with_reducible refine Below.setCell ?_ ?_ _) | (with_reducible refine Below.drew ?_) | (with_reducible refine below_setRow ?_ ?_ _) | (refine Below.trans ?_ (Below.mono (by assumption) ?_)))); all_goals (first | omega | (simp; done) | (simp; omega)))) | exact Sl.keep (by assumption) (by ((repeat (first | (with_reducible exact Below.refl _ _) | (with_reducible assumption) | (with_reducible refine Below.alloc ?_ ?_ _) | (with_reducible refine Below.setCell ?_ ?_ _) | (with_reducible refine Below.drew ?_) | (with_reducible refine below_setRow ?_ ?_ _) | (refine Below.trans ?_ (Below.mono (by assumption) ?_)))); all_goals (first | omega | (simp; done) | (simp; omega)))))) hok rfl hmx (by omega) (by omega)).mono ?_
    rintro r w1 ⟨rfl, hb1⟩
    have hz1 := hb1.size
    try simp only [World.size_alloc, World.size_setCell, World.size_drew] at hz1
    have hb1b : Below w.heap.size w w1 := by ((repeat (first | (with_reducible exact Below.refl _ _) | (with_reducible assumption) | (with_reducible refine Below.alloc ?_ ?_ _) | (with_reducible refine Below.setCell ?_ ?_ _) | (with_reducible refine Below.drew ?_) | (with_reducible refine below_setRow ?_ ?_ _) | (refine Below.trans ?_ (Below.mono (by assumption) ?_)))); all_goals (first | omega | (simp; done) | (simp; omega)))
    have kA := box_new0 hb1
    have hBA := box_lt0 hb1
    try simp only [World.size_alloc, World.size_setCell, World.size_drew] at kA
    try simp only [World.size_alloc, World.size_setCell, World.size_drew] at hBA
    clear hb1; have hb1 := hb1b; clear hb1b
    go_wp2
    go_ret
    exact ⟨rfl, by ((repeat (first | (with_reducible exact Below.refl _ _) | (with_reducible assumption) | (with_reducible refine Below.alloc ?_ ?_ _) | (with_reducible refine Below.setCell ?_ ?_ _) | (with_reducible refine Below.drew ?_) | (with_reducible refine below_setRow ?_ ?_ _) | (refine Below.trans ?_ (Below.mono (by assumption) ?_)))); all_goals (first | omega | (simp; done) | (simp; omega)))⟩
  · have hn : xs.length ≤ 1048576 := by omega
    have hm : fldSum xs ≤ 1048576 := by omega
    have hs' : 0 ≤ szS 1048576 xs := by simp only [szS]; rw [if_neg hs]; omega
    obtain ⟨ys, hy⟩ : ∃ ys, compR xs = ys := ⟨_, rfl⟩
    obtain ⟨⟨v0, v1, v2⟩, hv⟩ : ∃ v, firstV xs = v := ⟨_, rfl⟩
    have hny : ys.length ≤ 1048576 := by rw [← hy]; exact (compR_bounds xs).1
    have hmy : fldSum ys ≤ 1048576 := by rw [← hy]; exact (compR_bounds xs).2
    have HY := Lib.hid hy; clear hy
    have HV := Lib.hid hv; clear hv
    obtain ⟨N4, hN4⟩ : ∃ N, kS 1 xs xs.length = N := ⟨_, rfl⟩
    obtain ⟨N5, hN5⟩ : ∃ N, kS 1 ys ys.length = N := ⟨_, rfl⟩
    have HN4 := Lib.hid hN4; clear hN4
    have HN5 := Lib.hid hN5; clear hN5
    go_enter Try.func5, Try.ntmps5
    go_wp2_with fail
    refine (szRaw_any a cap _ xs 1048576 _ (hsl.keep (by ((repeat (first | (with_reducible exact Below.refl _ _) | (with_reducible assumption) | (with_reducible refine Below.alloc ?_ ?_ _) | (with_reducible refine Below.setCell ?_ ?_ _) | (with_reducible refine Below.drew ?_) | (with_reducible refine below_setRow ?_ ?_ _) | (refine Below.trans ?_ (Below.mono (by assumption) ?_)))); all_goals (first | omega | (simp; done) | (simp; omega))))) hok rfl hmx (by omega) (by omega)).mono ?_
    rintro r w1 ⟨rfl, hb1⟩
    have hz1 := hb1.size
    try simp only [World.size_alloc, World.size_setCell, World.size_drew] at hz1
    have hb1b : Below w.heap.size w w1 := by ((repeat (first | (with_reducible exact Below.refl _ _) | (with_reducible assumption) | (with_reducible refine Below.alloc ?_ ?_ _) | (with_reducible refine Below.setCell ?_ ?_ _) | (with_reducible refine Below.drew ?_) | (with_reducible refine below_setRow ?_ ?_ _) | (refine Below.trans ?_ (Below.mono (by assumption) ?_)))); all_goals (first | omega | (simp; done) | (simp; omega)))
    have kA := box_new0 hb1
    have hBA := box_lt0 hb1
    try simp only [World.size_alloc, World.size_setCell, World.size_drew] at kA
    try simp only [World.size_alloc, World.size_setCell, World.size_drew] at hBA
    clear hb1; have hb1 := hb1b; clear hb1b
    have hT1 : Below w.heap.size w w1 := hb1
    go_wp2_with fail
    refine (toRaw_any a cap _ xs _ (hsl.keep (show Below w.heap.size w _ from by ((repeat (first | (with_reducible exact Below.refl _ _) | (with_reducible assumption) | (with_reducible refine Below.alloc ?_ ?_ _) | (with_reducible refine Below.setCell ?_ ?_ _) | (with_reducible refine Below.drew ?_) | (with_reducible refine below_setRow ?_ ?_ _) | (refine Below.trans ?_ (Below.mono (by assumption) ?_)))); all_goals (first | omega | (simp; done) | (simp; omega))))) rfl hn hm).mono ?_
    rintro r w2 ⟨a2, cap2, rs2, rfl, ho2, hb2⟩
    have hz2 := hb2.size
    try simp only [World.size_alloc, World.size_setCell, World.size_drew] at hz2
    have hb2b : Below w1.heap.size w1 w2 := by ((repeat (first | (with_reducible exact Below.refl _ _) | (with_reducible assumption) | (with_reducible refine Below.alloc ?_ ?_ _) | (with_reducible refine Below.setCell ?_ ?_ _) | (with_reducible refine Below.drew ?_) | (with_reducible refine below_setRow ?_ ?_ _) | (refine Below.trans ?_ (Below.mono (by assumption) ?_)))); all_goals (first | omega | (simp; done) | (simp; omega)))
    have kA_ := box_next hb2b hBA kA; clear kA
    have kA := kA_; clear kA_
    have hBA_ := Nat.lt_of_lt_of_le hBA hb2b.size; clear hBA; have hBA := hBA_; clear hBA_
    clear hb2; have hb2 := hb2b; clear hb2b
    have hT2 : Below w.heap.size w w2 := hT1.trans (hb2.mono hT1.size)
    have L2 := Lib.hid ho2.shsL; have hcp2 := own_lecapR ho2.outer
    clear ho2
    go_wp2_with fail
    refine (specCmp_N a2 cap2 _ xs ys v0 v1 v2 _ (ShsL.keep L2.out (show Below w2.heap.size w2 _ from by ((repeat (first | (with_reducible exact Below.refl _ _) | (with_reducible assumption) | (with_reducible refine Below.alloc ?_ ?_ _) | (with_reducible refine Below.setCell ?_ ?_ _) | (with_reducible refine Below.drew ?_) | (with_reducible refine below_setRow ?_ ?_ _) | (refine Below.trans ?_ (Below.mono (by assumption) ?_)))); all_goals (first | omega | (simp; done) | (simp; omega))))) rfl hn hm HY.out HV.out).mono ?_
    rintro r w3 ⟨a3, cap3, rs3, rfl, ho3, hb3⟩
    have hz3 := hb3.size
    try simp only [World.size_alloc, World.size_setCell, World.size_drew] at hz3
    have hb3b : Below w2.heap.size w2 w3 := by ((repeat (first | (with_reducible exact Below.refl _ _) | (with_reducible assumption) | (with_reducible refine Below.alloc ?_ ?_ _) | (with_reducible refine Below.setCell ?_ ?_ _) | (with_reducible refine Below.drew ?_) | (with_reducible refine below_setRow ?_ ?_ _) | (refine Below.trans ?_ (Below.mono (by assumption) ?_)))); all_goals (first | omega | (simp; done) | (simp; omega)))
    have kA_ := box_next hb3b hBA kA; clear kA
    have kA := kA_; clear kA_
    have hBA_ := Nat.lt_of_lt_of_le hBA hb3b.size; clear hBA; have hBA := hBA_; clear hBA_
    clear hb3; have hb3 := hb3b; clear hb3b
    have hT3 : Below w.heap.size w w3 := hT2.trans (hb3.mono hT2.size)
    clear L2
    have hoq3 := ho3; try simp only [World.size_alloc, World.size_setCell, World.size_drew] at hoq3
    have R3 := Lib.hid (OwnSh.of_own hoq3 (by have := hb3.size; omega) (by decide)); clear ho3 hoq3
    go_wp2_with fail
    refine (toRaw_any a cap _ xs _ (hsl.keep (show Below w.heap.size w _ from by ((repeat (first | (with_reducible exact Below.refl _ _) | (with_reducible assumption) | (with_reducible refine Below.alloc ?_ ?_ _) | (with_reducible refine Below.setCell ?_ ?_ _) | (with_reducible refine Below.drew ?_) | (with_reducible refine below_setRow ?_ ?_ _) | (refine Below.trans ?_ (Below.mono (by assumption) ?_)))); all_goals (first | omega | (simp; done) | (simp; omega))))) rfl hn hm).mono ?_
    rintro r w4 ⟨a4, cap4, rs4, rfl, ho4, hb4⟩
    have hz4 := hb4.size
    try simp only [World.size_alloc, World.size_setCell, World.size_drew] at hz4
    have hb4b : Below w3.heap.size w3 w4 := by ((repeat (first | (with_reducible exact Below.refl _ _) | (with_reducible assumption) | (with_reducible refine Below.alloc ?_ ?_ _) | (with_reducible refine Below.setCell ?_ ?_ _) | (with_reducible refine Below.drew ?_) | (with_reducible refine below_setRow ?_ ?_ _) | (refine Below.trans ?_ (Below.mono (by assumption) ?_)))); all_goals (first | omega | (simp; done) | (simp; omega)))
    have kA_ := box_next hb4b hBA kA; clear kA
    have kA := kA_; clear kA_
    have hBA_ := Nat.lt_of_lt_of_le hBA hb4b.size; clear hBA; have hBA := hBA_; clear hBA_
    have kV := box_new0 hb4
    have hBV := box_lt0 hb4
    try simp only [World.size_alloc, World.size_setCell, World.size_drew] at kV
    try simp only [World.size_alloc, World.size_setCell, World.size_drew] at hBV
    have kW := box_new1 hb4
    have hBW := box_lt1 hb4
    try simp only [World.size_alloc, World.size_setCell, World.size_drew] at kW
    try simp only [World.size_alloc, World.size_setCell, World.size_drew] at hBW
    clear hb4; have hb4 := hb4b; clear hb4b
    have hT4 : Below w.heap.size w w4 := hT3.trans (hb4.mono hT3.size)
    have R3_ := Lib.hid (R3.out.keep hb4); clear R3; have R3 := R3_; clear R3_
    have L4 := Lib.hid ho4.shsL; have hcp4 := own_lecapR ho4.outer
    have hoq4 := ho4; try simp only [World.size_alloc, World.size_setCell, World.size_drew] at hoq4
    have R4 := Lib.hid (OwnSh.of_own hoq4 (by have := hb4.size; omega) (by decide)); clear ho4 hoq4
    go_wp2_with fail
    refine (implCmp_N a4 cap4 _ xs ys v0 v1 v2 _ (ShsL.keep L4.out (show Below w4.heap.size w4 _ from by ((repeat (first | (with_reducible exact Below.refl _ _) | (with_reducible assumption) | (with_reducible refine Below.alloc ?_ ?_ _) | (with_reducible refine Below.setCell ?_ ?_ _) | (with_reducible refine Below.drew ?_) | (with_reducible refine below_setRow ?_ ?_ _) | (refine Below.trans ?_ (Below.mono (by assumption) ?_)))); all_goals (first | omega | (simp; done) | (simp; omega))))) rfl hn hcp4 hm HY.out HV.out).mono ?_
    rintro r w5 ⟨a5, cap5, rs5, rfl, ho5, hb5⟩
    have hz5 := hb5.size
    try simp only [World.size_alloc, World.size_setCell, World.size_drew] at hz5
    have hb5b : Below w4.heap.size w4 w5 := by ((repeat (first | (with_reducible exact Below.refl _ _) | (with_reducible assumption) | (with_reducible refine Below.alloc ?_ ?_ _) | (with_reducible refine Below.setCell ?_ ?_ _) | (with_reducible refine Below.drew ?_) | (with_reducible refine below_setRow ?_ ?_ _) | (refine Below.trans ?_ (Below.mono (by assumption) ?_)))); all_goals (first | omega | (simp; done) | (simp; omega)))
    have kA_ := box_next hb5b hBA kA; clear kA
    have kA := kA_; clear kA_
    have hBA_ := Nat.lt_of_lt_of_le hBA hb5b.size; clear hBA; have hBA := hBA_; clear hBA_
    have kW_ := box_next hb5b hBW kW; clear kW
    have kW := kW_; clear kW_
    have hBW_ := Nat.lt_of_lt_of_le hBW hb5b.size; clear hBW; have hBW := hBW_; clear hBW_
    have kV_ := box_next hb5b hBV kV; clear kV
    have kV := kV_; clear kV_
    have hBV_ := Nat.lt_of_lt_of_le hBV hb5b.size; clear hBV; have hBV := hBV_; clear hBV_
    have kX := box_new0 hb5
    have hBX := box_lt0 hb5
    try simp only [World.size_alloc, World.size_setCell, World.size_drew] at kX
    try simp only [World.size_alloc, World.size_setCell, World.size_drew] at hBX
    clear hb5; have hb5 := hb5b; clear hb5b
    have hT5 : Below w.heap.size w w5 := hT4.trans (hb5.mono hT4.size)
    have R3_ := Lib.hid (R3.out.keep hb5); clear R3; have R3 := R3_; clear R3_
    have R4_ := Lib.hid (R4.out.keep hb5); clear R4; have R4 := R4_; clear R4_
    clear L4
    have hoq5 := ho5; try simp only [World.size_alloc, World.size_setCell, World.size_drew] at hoq5
    have R5 := Lib.hid (OwnSh.of_own hoq5 (by have := hb5.size; omega) (by decide)); clear ho5 hoq5
    go_wp2_with fail
    refine (eqSchema_same _ _ _ _ _ ys _ ((R5.out.keep (show Below w5.heap.size w5 _ from by ((repeat (first | (with_reducible exact Below.refl _ _) | (with_reducible assumption) | (with_reducible refine Below.alloc ?_ ?_ _) | (with_reducible refine Below.setCell ?_ ?_ _) | (with_reducible refine Below.drew ?_) | (with_reducible refine below_setRow ?_ ?_ _) | (refine Below.trans ?_ (Below.mono (by assumption) ?_)))); all_goals (first | omega | (simp; done) | (simp; omega))))).shs) ((R3.out.keep (show Below w5.heap.size w5 _ from by ((repeat (first | (with_reducible exact Below.refl _ _) | (with_reducible assumption) | (with_reducible refine Below.alloc ?_ ?_ _) | (with_reducible refine Below.setCell ?_ ?_ _) | (with_reducible refine Below.drew ?_) | (with_reducible refine below_setRow ?_ ?_ _) | (refine Below.trans ?_ (Below.mono (by assumption) ?_)))); all_goals (first | omega | (simp; done) | (simp; omega))))).shs) rfl hny hmy).mono ?_
    rintro r w6 ⟨rfl, hb6⟩
    have hz6 := hb6.size
    try simp only [World.size_alloc, World.size_setCell, World.size_drew] at hz6
    have hb6b : Below w5.heap.size w5 w6 := by ((repeat (first | (with_reducible exact Below.refl _ _) | (with_reducible assumption) | (with_reducible refine Below.alloc ?_ ?_ _) | (with_reducible refine Below.setCell ?_ ?_ _) | (with_reducible refine Below.drew ?_) | (with_reducible refine below_setRow ?_ ?_ _) | (refine Below.trans ?_ (Below.mono (by assumption) ?_)))); all_goals (first | omega | (simp; done) | (simp; omega)))
    have kA_ := box_next hb6b hBA kA; clear kA
    have kA := kA_; clear kA_
    have hBA_ := Nat.lt_of_lt_of_le hBA hb6b.size; clear hBA; have hBA := hBA_; clear hBA_
    have kW_ := box_next hb6b hBW kW; clear kW
    have kW := kW_; clear kW_
    have hBW_ := Nat.lt_of_lt_of_le hBW hb6b.size; clear hBW; have hBW := hBW_; clear hBW_
    have kV_ := box_next hb6b hBV kV; clear kV
    have kV := kV_; clear kV_
    have hBV_ := Nat.lt_of_lt_of_le hBV hb6b.size; clear hBV; have hBV := hBV_; clear hBV_
    have kX_ := box_next hb6b hBX kX; clear kX
    have kX := kX_; clear kX_
    have hBX_ := Nat.lt_of_lt_of_le hBX hb6b.size; clear hBX; have hBX := hBX_; clear hBX_
    have kY := box_new0 hb6
    have hBY := box_lt0 hb6
    try simp only [World.size_alloc, World.size_setCell, World.size_drew] at kY
    try simp only [World.size_alloc, World.size_setCell, World.size_drew] at hBY
    have kG := box_new1 hb6
    have hBG := box_lt1 hb6
    try simp only [World.size_alloc, World.size_setCell, World.size_drew] at kG
    try simp only [World.size_alloc, World.size_setCell, World.size_drew] at hBG
    clear hb6; have hb6 := hb6b; clear hb6b
    have hT6 : Below w.heap.size w w6 := hT5.trans (hb6.mono hT5.size)
    have R3_ := Lib.hid (R3.out.keep hb6); clear R3; have R3 := R3_; clear R3_
    have R4_ := Lib.hid (R4.out.keep hb6); clear R4; have R4 := R4_; clear R4_
    have R5_ := Lib.hid (R5.out.keep hb6); clear R5; have R5 := R5_; clear R5_
    go_wp2_with fail
    refine (eqVio_same v0 v1 v2 _).mono ?_
    rintro r w7 ⟨rfl, hb7⟩
    have hz7 := hb7.size
    try simp only [World.size_alloc, World.size_setCell, World.size_drew] at hz7
    have hb7b : Below w6.heap.size w6 w7 := by ((repeat (first | (with_reducible exact Below.refl _ _) | (with_reducible assumption) | (with_reducible refine Below.alloc ?_ ?_ _) | (with_reducible refine Below.setCell ?_ ?_ _) | (with_reducible refine Below.drew ?_) | (with_reducible refine below_setRow ?_ ?_ _) | (refine Below.trans ?_ (Below.mono (by assumption) ?_)))); all_goals (first | omega | (simp; done) | (simp; omega)))
    have kA_ := box_next hb7b hBA kA; clear kA
    have kA := kA_; clear kA_
    have hBA_ := Nat.lt_of_lt_of_le hBA hb7b.size; clear hBA; have hBA := hBA_; clear hBA_
    have kW_ := box_next hb7b hBW kW; clear kW
    have kW := kW_; clear kW_
    have hBW_ := Nat.lt_of_lt_of_le hBW hb7b.size; clear hBW; have hBW := hBW_; clear hBW_
    have kV_ := box_next hb7b hBV kV; clear kV
    have kV := kV_; clear kV_
    have hBV_ := Nat.lt_of_lt_of_le hBV hb7b.size; clear hBV; have hBV := hBV_; clear hBV_
    have kX_ := box_next hb7b hBX kX; clear kX
    have kX := kX_; clear kX_
    have hBX_ := Nat.lt_of_lt_of_le hBX hb7b.size; clear hBX; have hBX := hBX_; clear hBX_
    have kG_ := box_next hb7b hBG kG; clear kG
    have kG := kG_; clear kG_
    have hBG_ := Nat.lt_of_lt_of_le hBG hb7b.size; clear hBG; have hBG := hBG_; clear hBG_
    have kY_ := box_next hb7b hBY kY; clear kY
    have kY := kY_; clear kY_
    have hBY_ := Nat.lt_of_lt_of_le hBY hb7b.size; clear hBY; have hBY := hBY_; clear hBY_
    clear hb7; have hb7 := hb7b; clear hb7b
    have hT7 : Below w.heap.size w w7 := hT6.trans (hb7.mono hT6.size)
    have R3_ := Lib.hid (R3.out.keep hb7); clear R3; have R3 := R3_; clear R3_
    have R4_ := Lib.hid (R4.out.keep hb7); clear R4; have R4 := R4_; clear R4_
    have R5_ := Lib.hid (R5.out.keep hb7); clear R5; have R5 := R5_; clear R5_
    go_wp2_with fail
    go_region_held3 (fun w' => (∀ i, w'.cell? ⟨w4.heap.size, i, none⟩ = (#[.slice a4 xs.length cap4] : Array Value)[i]?) ∧ (∀ i, w'.cell? ⟨w.heap.size, i, none⟩ = (#[.slice a xs.length cap] : Array Value)[i]?) ∧ Below w7.heap.size w7 w') (first | assumption | exact ⟨kX, kA, (Below.refl _ _).drew⟩) (first | (go_at_call 23; have hS8a := held_last2 (by assumption); have hs8a_ := hS8a.size; refine (toRaw_any a cap _ xs _ (hsl.keep (show Below w.heap.size w _ from hT7.trans (Below.mono (by assumption) hT7.size))) rfl hn hm).mono ?_; rintro r w8a ⟨a8a, cap8a, rs8a, rfl, ho8a, hb8a⟩; have hz8a := hb8a.size; have hT8a := held_next2 (by assumption) hb8a (by omega) (by omega); have hs8a := ho8a.shs; clear ho8a) | (go_at_call 26; have hS8b := held_last2 (by assumption); have hs8b_ := hS8b.size; refine (eqRaw_same _ _ _ _ _ xs _ ((R4.out.keep (by assumption)).shs) (by (first | assumption | exact Shs.keep (by assumption) (by ((repeat (first | (with_reducible exact Below.refl _ _) | (with_reducible assumption) | (with_reducible refine Below.alloc ?_ ?_ _) | (with_reducible refine Below.setCell ?_ ?_ _) | (with_reducible refine Below.drew ?_) | (with_reducible refine below_setRow ?_ ?_ _) | (refine Below.trans ?_ (Below.mono (by assumption) ?_)))); all_goals (first | omega | (simp; done) | (simp; omega)))) | exact Sl.keep (by assumption) (by ((repeat (first | (with_reducible exact Below.refl _ _) | (with_reducible assumption) | (with_reducible refine Below.alloc ?_ ?_ _) | (with_reducible refine Below.setCell ?_ ?_ _) | (with_reducible refine Below.drew ?_) | (with_reducible refine below_setRow ?_ ?_ _) | (refine Below.trans ?_ (Below.mono (by assumption) ?_)))); all_goals (first | omega | (simp; done) | (simp; omega)))))) rfl hn hm).mono ?_; rintro r w8b ⟨rfl, hb8b⟩; have hz8b := hb8b.size; have hT8b := held_next2 (by assumption) hb8b (by omega) (by omega); skip))
    obtain ⟨kX_, kA_, hbT8⟩ := hT8b
    clear kX; have kX := kX_; clear kX_
    have hBX_ := Nat.lt_of_lt_of_le hBX hbT8.size; clear hBX; have hBX := hBX_; clear hBX_
    clear kA; have kA := kA_; clear kA_
    have hBA_ := Nat.lt_of_lt_of_le hBA hbT8.size; clear hBA; have hBA := hBA_; clear hBA_
    have hT8 : Below w.heap.size w w8b := hT7.trans (hbT8.mono hT7.size)
    have R3_ := Lib.hid (R3.out.keep hbT8); clear R3; have R3 := R3_; clear R3_
    have R4_ := Lib.hid (R4.out.keep hbT8); clear R4; have R4 := R4_; clear R4_
    have R5_ := Lib.hid (R5.out.keep hbT8); clear R5; have R5 := R5_; clear R5_
    have hz8 := hbT8.size
    have kW_ := box_next hbT8 hBW kW; clear kW; have kW := kW_; clear kW_; have hBW_ := Nat.lt_of_lt_of_le hBW hz8; clear hBW; have hBW := hBW_; clear hBW_
    have kV_ := box_next hbT8 hBV kV; clear kV; have kV := kV_; clear kV_; have hBV_ := Nat.lt_of_lt_of_le hBV hz8; clear hBV; have hBV := hBV_; clear hBV_
    have kG_ := box_next hbT8 hBG kG; clear kG; have kG := kG_; clear kG_; have hBG_ := Nat.lt_of_lt_of_le hBG hz8; clear hBG; have hBG := hBG_; clear hBG_
    have kY_ := box_next hbT8 hBY kY; clear kY; have kY := kY_; clear kY_; have hBY_ := Nat.lt_of_lt_of_le hBY hz8; clear hBY; have hBY := hBY_; clear hBY_
    have hT8b := hT8
    go_wp2_with fail
    refine (rawMark_N a4 cap4 _ rs4 xs _ _ N4 _ (R4.out.keep (show Below w8b.heap.size w8b _ from by ((repeat (first | (with_reducible exact Below.refl _ _) | (with_reducible assumption) | (with_reducible refine Below.alloc ?_ ?_ _) | (with_reducible refine Below.setCell ?_ ?_ _) | (with_reducible refine Below.drew ?_) | (with_reducible refine below_setRow ?_ ?_ _) | (refine Below.trans ?_ (Below.mono (by assumption) ?_)))); all_goals (first | omega | (simp; done) | (simp; omega))))) hn hm HN4.out).mono ?_
    rintro r w9 ⟨rfl, ⟨rs4', h4'⟩, hc9⟩
    have hz9 := hc9.size
    have hT9 : Below w.heap.size w w9 := hT8b.trans ((hc9.below (by omega)).mono (by omega))
    have kA_ := box_chgR hc9 hBA (by omega) kA; clear kA; have kA := kA_; clear kA_; have hBA_ := Nat.lt_of_lt_of_le hBA hz9; clear hBA; have hBA := hBA_; clear hBA_
    have kW_ := box_chgR hc9 hBW (by omega) kW; clear kW; have kW := kW_; clear kW_; have hBW_ := Nat.lt_of_lt_of_le hBW hz9; clear hBW; have hBW := hBW_; clear hBW_
    have kV_ := box_chgR hc9 hBV (by omega) kV; clear kV; have kV := kV_; clear kV_; have hBV_ := Nat.lt_of_lt_of_le hBV hz9; clear hBV; have hBV := hBV_; clear hBV_
    have kX_ := box_chgR hc9 hBX (by omega) kX; clear kX; have kX := kX_; clear kX_; have hBX_ := Nat.lt_of_lt_of_le hBX hz9; clear hBX; have hBX := hBX_; clear hBX_
    have kG_ := box_chgR hc9 hBG (by omega) kG; clear kG; have kG := kG_; clear kG_; have hBG_ := Nat.lt_of_lt_of_le hBG hz9; clear hBG; have hBG := hBG_; clear hBG_
    have kY_ := box_chgR hc9 hBY (by omega) kY; clear kY; have kY := kY_; clear kY_; have hBY_ := Nat.lt_of_lt_of_le hBY hz9; clear hBY; have hBY := hBY_; clear hBY_
    have R3_ := Lib.hid (R3.out.chg hc9 (by omega)); clear R3; have R3 := R3_; clear R3_
    have R5_ := Lib.hid (R5.out.chg hc9 (by omega)); clear R5; have R5 := R5_; clear R5_
    clear R4 h4'
    go_wp2_with fail
    refine (eqSchema_same _ _ _ _ _ ys _ ((R5.out.keep (show Below w9.heap.size w9 _ from by ((repeat (first | (with_reducible exact Below.refl _ _) | (with_reducible assumption) | (with_reducible refine Below.alloc ?_ ?_ _) | (with_reducible refine Below.setCell ?_ ?_ _) | (with_reducible refine Below.drew ?_) | (with_reducible refine below_setRow ?_ ?_ _) | (refine Below.trans ?_ (Below.mono (by assumption) ?_)))); all_goals (first | omega | (simp; done) | (simp; omega))))).shs) ((R3.out.keep (show Below w9.heap.size w9 _ from by ((repeat (first | (with_reducible exact Below.refl _ _) | (with_reducible assumption) | (with_reducible refine Below.alloc ?_ ?_ _) | (with_reducible refine Below.setCell ?_ ?_ _) | (with_reducible refine Below.drew ?_) | (with_reducible refine below_setRow ?_ ?_ _) | (refine Below.trans ?_ (Below.mono (by assumption) ?_)))); all_goals (first | omega | (simp; done) | (simp; omega))))).shs) rfl hny hmy).mono ?_
    rintro r w10 ⟨rfl, hb10⟩
    have hz10 := hb10.size
    try simp only [World.size_alloc, World.size_setCell, World.size_drew] at hz10
    have hb10b : Below w9.heap.size w9 w10 := by ((repeat (first | (with_reducible exact Below.refl _ _) | (with_reducible assumption) | (with_reducible refine Below.alloc ?_ ?_ _) | (with_reducible refine Below.setCell ?_ ?_ _) | (with_reducible refine Below.drew ?_) | (with_reducible refine below_setRow ?_ ?_ _) | (refine Below.trans ?_ (Below.mono (by assumption) ?_)))); all_goals (first | omega | (simp; done) | (simp; omega)))
    have kA_ := box_next hb10b hBA kA; clear kA
    have kA := kA_; clear kA_
    have hBA_ := Nat.lt_of_lt_of_le hBA hb10b.size; clear hBA; have hBA := hBA_; clear hBA_
    have kW_ := box_next hb10b hBW kW; clear kW
    have kW := kW_; clear kW_
    have hBW_ := Nat.lt_of_lt_of_le hBW hb10b.size; clear hBW; have hBW := hBW_; clear hBW_
    have kV_ := box_next hb10b hBV kV; clear kV
    have kV := kV_; clear kV_
    have hBV_ := Nat.lt_of_lt_of_le hBV hb10b.size; clear hBV; have hBV := hBV_; clear hBV_
    have kX_ := box_next hb10b hBX kX; clear kX
    have kX := kX_; clear kX_
    have hBX_ := Nat.lt_of_lt_of_le hBX hb10b.size; clear hBX; have hBX := hBX_; clear hBX_
    have kG_ := box_next hb10b hBG kG; clear kG
    have kG := kG_; clear kG_
    have hBG_ := Nat.lt_of_lt_of_le hBG hb10b.size; clear hBG; have hBG := hBG_; clear hBG_
    have kY_ := box_next hb10b hBY kY; clear kY
    have kY := kY_; clear kY_
    have hBY_ := Nat.lt_of_lt_of_le hBY hb10b.size; clear hBY; have hBY := hBY_; clear hBY_
    clear hb10; have hb10 := hb10b; clear hb10b
    have hT10 : Below w.heap.size w w10 := hT9.trans (hb10.mono hT9.size)
    have R3_ := Lib.hid (R3.out.keep hb10); clear R3; have R3 := R3_; clear R3_
    have R5_ := Lib.hid (R5.out.keep hb10); clear R5; have R5 := R5_; clear R5_
    go_wp2_with fail
    refine (eqVio_same v0 v1 v2 _).mono ?_
    rintro r w11 ⟨rfl, hb11⟩
    have hz11 := hb11.size
    try simp only [World.size_alloc, World.size_setCell, World.size_drew] at hz11
    have hb11b : Below w10.heap.size w10 w11 := by ((repeat (first | (with_reducible exact Below.refl _ _) | (with_reducible assumption) | (with_reducible refine Below.alloc ?_ ?_ _) | (with_reducible refine Below.setCell ?_ ?_ _) | (with_reducible refine Below.drew ?_) | (with_reducible refine below_setRow ?_ ?_ _) | (refine Below.trans ?_ (Below.mono (by assumption) ?_)))); all_goals (first | omega | (simp; done) | (simp; omega)))
    have kA_ := box_next hb11b hBA kA; clear kA
    have kA := kA_; clear kA_
    have hBA_ := Nat.lt_of_lt_of_le hBA hb11b.size; clear hBA; have hBA := hBA_; clear hBA_
    have kW_ := box_next hb11b hBW kW; clear kW
    have kW := kW_; clear kW_
    have hBW_ := Nat.lt_of_lt_of_le hBW hb11b.size; clear hBW; have hBW := hBW_; clear hBW_
    have kV_ := box_next hb11b hBV kV; clear kV
    have kV := kV_; clear kV_
    have hBV_ := Nat.lt_of_lt_of_le hBV hb11b.size; clear hBV; have hBV := hBV_; clear hBV_
    have kX_ := box_next hb11b hBX kX; clear kX
    have kX := kX_; clear kX_
    have hBX_ := Nat.lt_of_lt_of_le hBX hb11b.size; clear hBX; have hBX := hBX_; clear hBX_
    have kG_ := box_next hb11b hBG kG; clear kG
    have kG := kG_; clear kG_
    have hBG_ := Nat.lt_of_lt_of_le hBG hb11b.size; clear hBG; have hBG := hBG_; clear hBG_
    have kY_ := box_next hb11b hBY kY; clear kY
    have kY := kY_; clear kY_
    have hBY_ := Nat.lt_of_lt_of_le hBY hb11b.size; clear hBY; have hBY := hBY_; clear hBY_
    clear hb11; have hb11 := hb11b; clear hb11b
    have hT11 : Below w.heap.size w w11 := hT10.trans (hb11.mono hT10.size)
    have R3_ := Lib.hid (R3.out.keep hb11); clear R3; have R3 := R3_; clear R3_
    have R5_ := Lib.hid (R5.out.keep hb11); clear R5; have R5 := R5_; clear R5_
    go_wp2_with fail
    refine (schMark_N a5 cap5 _ rs5 ys _ _ N5 _ (R5.out.keep (show Below w11.heap.size w11 _ from by ((repeat (first | (with_reducible exact Below.refl _ _) | (with_reducible assumption) | (with_reducible refine Below.alloc ?_ ?_ _) | (with_reducible refine Below.setCell ?_ ?_ _) | (with_reducible refine Below.drew ?_) | (with_reducible refine below_setRow ?_ ?_ _) | (refine Below.trans ?_ (Below.mono (by assumption) ?_)))); all_goals (first | omega | (simp; done) | (simp; omega))))) hny hmy HN5.out).mono ?_
    rintro r w12 ⟨rfl, ⟨rs5', h5'⟩, hc12⟩
    have hz12 := hc12.size
    have hT12 : Below w.heap.size w w12 := hT11.trans ((hc12.below (by omega)).mono (by omega))
    have kA_ := box_chgR hc12 hBA (by omega) kA; clear kA; have kA := kA_; clear kA_; have hBA_ := Nat.lt_of_lt_of_le hBA hz12; clear hBA; have hBA := hBA_; clear hBA_
    have kW_ := box_chgR hc12 hBW (by omega) kW; clear kW; have kW := kW_; clear kW_; have hBW_ := Nat.lt_of_lt_of_le hBW hz12; clear hBW; have hBW := hBW_; clear hBW_
    have kV_ := box_chgR hc12 hBV (by omega) kV; clear kV; have kV := kV_; clear kV_; have hBV_ := Nat.lt_of_lt_of_le hBV hz12; clear hBV; have hBV := hBV_; clear hBV_
    have kX_ := box_chgR hc12 hBX (by omega) kX; clear kX; have kX := kX_; clear kX_; have hBX_ := Nat.lt_of_lt_of_le hBX hz12; clear hBX; have hBX := hBX_; clear hBX_
    have kG_ := box_chgR hc12 hBG (by omega) kG; clear kG; have kG := kG_; clear kG_; have hBG_ := Nat.lt_of_lt_of_le hBG hz12; clear hBG; have hBG := hBG_; clear hBG_
    have kY_ := box_chgR hc12 hBY (by omega) kY; clear kY; have kY := kY_; clear kY_; have hBY_ := Nat.lt_of_lt_of_le hBY hz12; clear hBY; have hBY := hBY_; clear hBY_
    have R3_ := Lib.hid (R3.out.chg hc12 (by omega)); clear R3; have R3 := R3_; clear R3_
    clear R5; have R5 := Lib.hid h5'; clear h5'
    go_wp2_with fail
    refine (schHeld_N a5 cap5 _ ys N5 _ ((R5.out.keep (show Below w12.heap.size w12 _ from by ((repeat (first | (with_reducible exact Below.refl _ _) | (with_reducible assumption) | (with_reducible refine Below.alloc ?_ ?_ _) | (with_reducible refine Below.setCell ?_ ?_ _) | (with_reducible refine Below.drew ?_) | (with_reducible refine below_setRow ?_ ?_ _) | (refine Below.trans ?_ (Below.mono (by assumption) ?_)))); all_goals (first | omega | (simp; done) | (simp; omega))))).shs) rfl hny hmy HN5.out).mono ?_
    rintro r w13 ⟨rfl, hb13⟩
    have hz13 := hb13.size
    try simp only [World.size_alloc, World.size_setCell, World.size_drew] at hz13
    have hb13b : Below w12.heap.size w12 w13 := by ((repeat (first | (with_reducible exact Below.refl _ _) | (with_reducible assumption) | (with_reducible refine Below.alloc ?_ ?_ _) | (with_reducible refine Below.setCell ?_ ?_ _) | (with_reducible refine Below.drew ?_) | (with_reducible refine below_setRow ?_ ?_ _) | (refine Below.trans ?_ (Below.mono (by assumption) ?_)))); all_goals (first | omega | (simp; done) | (simp; omega)))
    have kA_ := box_next hb13b hBA kA; clear kA
    have kA := kA_; clear kA_
    have hBA_ := Nat.lt_of_lt_of_le hBA hb13b.size; clear hBA; have hBA := hBA_; clear hBA_
    have kW_ := box_next hb13b hBW kW; clear kW
    have kW := kW_; clear kW_
    have hBW_ := Nat.lt_of_lt_of_le hBW hb13b.size; clear hBW; have hBW := hBW_; clear hBW_
    have kV_ := box_next hb13b hBV kV; clear kV
    have kV := kV_; clear kV_
    have hBV_ := Nat.lt_of_lt_of_le hBV hb13b.size; clear hBV; have hBV := hBV_; clear hBV_
    have kX_ := box_next hb13b hBX kX; clear kX
    have kX := kX_; clear kX_
    have hBX_ := Nat.lt_of_lt_of_le hBX hb13b.size; clear hBX; have hBX := hBX_; clear hBX_
    have kG_ := box_next hb13b hBG kG; clear kG
    have kG := kG_; clear kG_
    have hBG_ := Nat.lt_of_lt_of_le hBG hb13b.size; clear hBG; have hBG := hBG_; clear hBG_
    have kY_ := box_next hb13b hBY kY; clear kY
    have kY := kY_; clear kY_
    have hBY_ := Nat.lt_of_lt_of_le hBY hb13b.size; clear hBY; have hBY := hBY_; clear hBY_
    clear hb13; have hb13 := hb13b; clear hb13b
    have hT13 : Below w.heap.size w w13 := hT12.trans (hb13.mono hT12.size)
    have R3_ := Lib.hid (R3.out.keep hb13); clear R3; have R3 := R3_; clear R3_
    have R5_ := Lib.hid (R5.out.keep hb13); clear R5; have R5 := R5_; clear R5_
    go_wp2_with fail
    refine (toRaw_any a cap _ xs _ (hsl.keep (show Below w.heap.size w _ from by ((repeat (first | (with_reducible exact Below.refl _ _) | (with_reducible assumption) | (with_reducible refine Below.alloc ?_ ?_ _) | (with_reducible refine Below.setCell ?_ ?_ _) | (with_reducible refine Below.drew ?_) | (with_reducible refine below_setRow ?_ ?_ _) | (refine Below.trans ?_ (Below.mono (by assumption) ?_)))); all_goals (first | omega | (simp; done) | (simp; omega))))) rfl hn hm).mono ?_
    rintro r w14 ⟨a14, cap14, rs14, rfl, ho14, hb14⟩
    have hz14 := hb14.size
    try simp only [World.size_alloc, World.size_setCell, World.size_drew] at hz14
    have hb14b : Below w13.heap.size w13 w14 := by ((repeat (first | (with_reducible exact Below.refl _ _) | (with_reducible assumption) | (with_reducible refine Below.alloc ?_ ?_ _) | (with_reducible refine Below.setCell ?_ ?_ _) | (with_reducible refine Below.drew ?_) | (with_reducible refine below_setRow ?_ ?_ _) | (refine Below.trans ?_ (Below.mono (by assumption) ?_)))); all_goals (first | omega | (simp; done) | (simp; omega)))
    have kA_ := box_next hb14b hBA kA; clear kA
    have kA := kA_; clear kA_
    have hBA_ := Nat.lt_of_lt_of_le hBA hb14b.size; clear hBA; have hBA := hBA_; clear hBA_
    have kW_ := box_next hb14b hBW kW; clear kW
    have kW := kW_; clear kW_
    have hBW_ := Nat.lt_of_lt_of_le hBW hb14b.size; clear hBW; have hBW := hBW_; clear hBW_
    have kV_ := box_next hb14b hBV kV; clear kV
    have kV := kV_; clear kV_
    have hBV_ := Nat.lt_of_lt_of_le hBV hb14b.size; clear hBV; have hBV := hBV_; clear hBV_
    have kX_ := box_next hb14b hBX kX; clear kX
    have kX := kX_; clear kX_
    have hBX_ := Nat.lt_of_lt_of_le hBX hb14b.size; clear hBX; have hBX := hBX_; clear hBX_
    have kG_ := box_next hb14b hBG kG; clear kG
    have kG := kG_; clear kG_
    have hBG_ := Nat.lt_of_lt_of_le hBG hb14b.size; clear hBG; have hBG := hBG_; clear hBG_
    have kY_ := box_next hb14b hBY kY; clear kY
    have kY := kY_; clear kY_
    have hBY_ := Nat.lt_of_lt_of_le hBY hb14b.size; clear hBY; have hBY := hBY_; clear hBY_
    clear hb14; have hb14 := hb14b; clear hb14b
    have hT14 : Below w.heap.size w w14 := hT13.trans (hb14.mono hT13.size)
    have R3_ := Lib.hid (R3.out.keep hb14); clear R3; have R3 := R3_; clear R3_
    have R5_ := Lib.hid (R5.out.keep hb14); clear R5; have R5 := R5_; clear R5_
    have L14 := Lib.hid ho14.shsL; have hcp14 := own_lecapR ho14.outer
    clear ho14
    go_wp2_with fail
    refine (implCmp_N a14 cap14 _ xs ys v0 v1 v2 _ (ShsL.keep L14.out (show Below w14.heap.size w14 _ from by ((repeat (first | (with_reducible exact Below.refl _ _) | (with_reducible assumption) | (with_reducible refine Below.alloc ?_ ?_ _) | (with_reducible refine Below.setCell ?_ ?_ _) | (with_reducible refine Below.drew ?_) | (with_reducible refine below_setRow ?_ ?_ _) | (refine Below.trans ?_ (Below.mono (by assumption) ?_)))); all_goals (first | omega | (simp; done) | (simp; omega))))) rfl hn hcp14 hm HY.out HV.out).mono ?_
    rintro r w15 ⟨a15, cap15, rs15, rfl, ho15, hb15⟩
    have hz15 := hb15.size
    try simp only [World.size_alloc, World.size_setCell, World.size_drew] at hz15
    have hb15b : Below w14.heap.size w14 w15 := by ((repeat (first | (with_reducible exact Below.refl _ _) | (with_reducible assumption) | (with_reducible refine Below.alloc ?_ ?_ _) | (with_reducible refine Below.setCell ?_ ?_ _) | (with_reducible refine Below.drew ?_) | (with_reducible refine below_setRow ?_ ?_ _) | (refine Below.trans ?_ (Below.mono (by assumption) ?_)))); all_goals (first | omega | (simp; done) | (simp; omega)))
    have kA_ := box_next hb15b hBA kA; clear kA
    have kA := kA_; clear kA_
    have hBA_ := Nat.lt_of_lt_of_le hBA hb15b.size; clear hBA; have hBA := hBA_; clear hBA_
    have kW_ := box_next hb15b hBW kW; clear kW
    have kW := kW_; clear kW_
    have hBW_ := Nat.lt_of_lt_of_le hBW hb15b.size; clear hBW; have hBW := hBW_; clear hBW_
    have kV_ := box_next hb15b hBV kV; clear kV
    have kV := kV_; clear kV_
    have hBV_ := Nat.lt_of_lt_of_le hBV hb15b.size; clear hBV; have hBV := hBV_; clear hBV_
    have kX_ := box_next hb15b hBX kX; clear kX
    have kX := kX_; clear kX_
    have hBX_ := Nat.lt_of_lt_of_le hBX hb15b.size; clear hBX; have hBX := hBX_; clear hBX_
    have kG_ := box_next hb15b hBG kG; clear kG
    have kG := kG_; clear kG_
    have hBG_ := Nat.lt_of_lt_of_le hBG hb15b.size; clear hBG; have hBG := hBG_; clear hBG_
    have kY_ := box_next hb15b hBY kY; clear kY
    have kY := kY_; clear kY_
    have hBY_ := Nat.lt_of_lt_of_le hBY hb15b.size; clear hBY; have hBY := hBY_; clear hBY_
    clear hb15; have hb15 := hb15b; clear hb15b
    have hT15 : Below w.heap.size w w15 := hT14.trans (hb15.mono hT14.size)
    have R3_ := Lib.hid (R3.out.keep hb15); clear R3; have R3 := R3_; clear R3_
    have R5_ := Lib.hid (R5.out.keep hb15); clear R5; have R5 := R5_; clear R5_
    clear L14
    have hoq15 := ho15; try simp only [World.size_alloc, World.size_setCell, World.size_drew] at hoq15
    have R15 := Lib.hid (OwnSh.of_own hoq15 (by have := hb15.size; omega) (by decide)); clear ho15 hoq15
    go_wp2_with fail
    refine (eqSchema_same _ _ _ _ _ ys _ ((R15.out.keep (show Below w15.heap.size w15 _ from by ((repeat (first | (with_reducible exact Below.refl _ _) | (with_reducible assumption) | (with_reducible refine Below.alloc ?_ ?_ _) | (with_reducible refine Below.setCell ?_ ?_ _) | (with_reducible refine Below.drew ?_) | (with_reducible refine below_setRow ?_ ?_ _) | (refine Below.trans ?_ (Below.mono (by assumption) ?_)))); all_goals (first | omega | (simp; done) | (simp; omega))))).shs) ((R3.out.keep (show Below w15.heap.size w15 _ from by ((repeat (first | (with_reducible exact Below.refl _ _) | (with_reducible assumption) | (with_reducible refine Below.alloc ?_ ?_ _) | (with_reducible refine Below.setCell ?_ ?_ _) | (with_reducible refine Below.drew ?_) | (with_reducible refine below_setRow ?_ ?_ _) | (refine Below.trans ?_ (Below.mono (by assumption) ?_)))); all_goals (first | omega | (simp; done) | (simp; omega))))).shs) rfl hny hmy).mono ?_
    rintro r w16 ⟨rfl, hb16⟩
    have hz16 := hb16.size
    try simp only [World.size_alloc, World.size_setCell, World.size_drew] at hz16
    have hb16b : Below w15.heap.size w15 w16 := by ((repeat (first | (with_reducible exact Below.refl _ _) | (with_reducible assumption) | (with_reducible refine Below.alloc ?_ ?_ _) | (with_reducible refine Below.setCell ?_ ?_ _) | (with_reducible refine Below.drew ?_) | (with_reducible refine below_setRow ?_ ?_ _) | (refine Below.trans ?_ (Below.mono (by assumption) ?_)))); all_goals (first | omega | (simp; done) | (simp; omega)))
    have kA_ := box_next hb16b hBA kA; clear kA
    have kA := kA_; clear kA_
    have hBA_ := Nat.lt_of_lt_of_le hBA hb16b.size; clear hBA; have hBA := hBA_; clear hBA_
    have kW_ := box_next hb16b hBW kW; clear kW
    have kW := kW_; clear kW_
    have hBW_ := Nat.lt_of_lt_of_le hBW hb16b.size; clear hBW; have hBW := hBW_; clear hBW_
    have kV_ := box_next hb16b hBV kV; clear kV
    have kV := kV_; clear kV_
    have hBV_ := Nat.lt_of_lt_of_le hBV hb16b.size; clear hBV; have hBV := hBV_; clear hBV_
    have kX_ := box_next hb16b hBX kX; clear kX
    have kX := kX_; clear kX_
    have hBX_ := Nat.lt_of_lt_of_le hBX hb16b.size; clear hBX; have hBX := hBX_; clear hBX_
    have kG_ := box_next hb16b hBG kG; clear kG
    have kG := kG_; clear kG_
    have hBG_ := Nat.lt_of_lt_of_le hBG hb16b.size; clear hBG; have hBG := hBG_; clear hBG_
    have kY_ := box_next hb16b hBY kY; clear kY
    have kY := kY_; clear kY_
    have hBY_ := Nat.lt_of_lt_of_le hBY hb16b.size; clear hBY; have hBY := hBY_; clear hBY_
    have kZ := box_new0 hb16
    have hBZ := box_lt0 hb16
    try simp only [World.size_alloc, World.size_setCell, World.size_drew] at kZ
    try simp only [World.size_alloc, World.size_setCell, World.size_drew] at hBZ
    have kH := box_new1 hb16
    have hBH := box_lt1 hb16
    try simp only [World.size_alloc, World.size_setCell, World.size_drew] at kH
    try simp only [World.size_alloc, World.size_setCell, World.size_drew] at hBH
    clear hb16; have hb16 := hb16b; clear hb16b
    have hT16 : Below w.heap.size w w16 := hT15.trans (hb16.mono hT15.size)
    have R3_ := Lib.hid (R3.out.keep hb16); clear R3; have R3 := R3_; clear R3_
    have R5_ := Lib.hid (R5.out.keep hb16); clear R5; have R5 := R5_; clear R5_
    have R15_ := Lib.hid (R15.out.keep hb16); clear R15; have R15 := R15_; clear R15_
    go_wp2_with fail
    refine (eqVio_same v0 v1 v2 _).mono ?_
    rintro r w17 ⟨rfl, hb17⟩
    have hz17 := hb17.size
    try simp only [World.size_alloc, World.size_setCell, World.size_drew] at hz17
    have hb17b : Below w16.heap.size w16 w17 := by ((repeat (first | (with_reducible exact Below.refl _ _) | (with_reducible assumption) | (with_reducible refine Below.alloc ?_ ?_ _) | (with_reducible refine Below.setCell ?_ ?_ _) | (with_reducible refine Below.drew ?_) | (with_reducible refine below_setRow ?_ ?_ _) | (refine Below.trans ?_ (Below.mono (by assumption) ?_)))); all_goals (first | omega | (simp; done) | (simp; omega)))
    have kA_ := box_next hb17b hBA kA; clear kA
    have kA := kA_; clear kA_
    have hBA_ := Nat.lt_of_lt_of_le hBA hb17b.size; clear hBA; have hBA := hBA_; clear hBA_
    have kW_ := box_next hb17b hBW kW; clear kW
    have kW := kW_; clear kW_
    have hBW_ := Nat.lt_of_lt_of_le hBW hb17b.size; clear hBW; have hBW := hBW_; clear hBW_
    have kV_ := box_next hb17b hBV kV; clear kV
    have kV := kV_; clear kV_
    have hBV_ := Nat.lt_of_lt_of_le hBV hb17b.size; clear hBV; have hBV := hBV_; clear hBV_
    have kX_ := box_next hb17b hBX kX; clear kX
    have kX := kX_; clear kX_
    have hBX_ := Nat.lt_of_lt_of_le hBX hb17b.size; clear hBX; have hBX := hBX_; clear hBX_
    have kG_ := box_next hb17b hBG kG; clear kG
    have kG := kG_; clear kG_
    have hBG_ := Nat.lt_of_lt_of_le hBG hb17b.size; clear hBG; have hBG := hBG_; clear hBG_
    have kY_ := box_next hb17b hBY kY; clear kY
    have kY := kY_; clear kY_
    have hBY_ := Nat.lt_of_lt_of_le hBY hb17b.size; clear hBY; have hBY := hBY_; clear hBY_
    have kH_ := box_next hb17b hBH kH; clear kH
    have kH := kH_; clear kH_
    have hBH_ := Nat.lt_of_lt_of_le hBH hb17b.size; clear hBH; have hBH := hBH_; clear hBH_
    have kZ_ := box_next hb17b hBZ kZ; clear kZ
    have kZ := kZ_; clear kZ_
    have hBZ_ := Nat.lt_of_lt_of_le hBZ hb17b.size; clear hBZ; have hBZ := hBZ_; clear hBZ_
    clear hb17; have hb17 := hb17b; clear hb17b
    have hT17 : Below w.heap.size w w17 := hT16.trans (hb17.mono hT16.size)
    have R3_ := Lib.hid (R3.out.keep hb17); clear R3; have R3 := R3_; clear R3_
    have R5_ := Lib.hid (R5.out.keep hb17); clear R5; have R5 := R5_; clear R5_
    have R15_ := Lib.hid (R15.out.keep hb17); clear R15; have R15 := R15_; clear R15_
    go_wp2_with fail
    refine (schHeld_N a5 cap5 _ ys N5 _ ((R5.out.keep (show Below w17.heap.size w17 _ from by ((repeat (first | (with_reducible exact Below.refl _ _) | (with_reducible assumption) | (with_reducible refine Below.alloc ?_ ?_ _) | (with_reducible refine Below.setCell ?_ ?_ _) | (with_reducible refine Below.drew ?_) | (with_reducible refine below_setRow ?_ ?_ _) | (refine Below.trans ?_ (Below.mono (by assumption) ?_)))); all_goals (first | omega | (simp; done) | (simp; omega))))).shs) rfl hny hmy HN5.out).mono ?_
    rintro r w18 ⟨rfl, hb18⟩
    have hz18 := hb18.size
    try simp only [World.size_alloc, World.size_setCell, World.size_drew] at hz18
    have hb18b : Below w17.heap.size w17 w18 := by ((repeat (first | (with_reducible exact Below.refl _ _) | (with_reducible assumption) | (with_reducible refine Below.alloc ?_ ?_ _) | (with_reducible refine Below.setCell ?_ ?_ _) | (with_reducible refine Below.drew ?_) | (with_reducible refine below_setRow ?_ ?_ _) | (refine Below.trans ?_ (Below.mono (by assumption) ?_)))); all_goals (first | omega | (simp; done) | (simp; omega)))
    have kA_ := box_next hb18b hBA kA; clear kA
    have kA := kA_; clear kA_
    have hBA_ := Nat.lt_of_lt_of_le hBA hb18b.size; clear hBA; have hBA := hBA_; clear hBA_
    have kW_ := box_next hb18b hBW kW; clear kW
    have kW := kW_; clear kW_
    have hBW_ := Nat.lt_of_lt_of_le hBW hb18b.size; clear hBW; have hBW := hBW_; clear hBW_
    have kV_ := box_next hb18b hBV kV; clear kV
    have kV := kV_; clear kV_
    have hBV_ := Nat.lt_of_lt_of_le hBV hb18b.size; clear hBV; have hBV := hBV_; clear hBV_
    have kX_ := box_next hb18b hBX kX; clear kX
    have kX := kX_; clear kX_
    have hBX_ := Nat.lt_of_lt_of_le hBX hb18b.size; clear hBX; have hBX := hBX_; clear hBX_
    have kG_ := box_next hb18b hBG kG; clear kG
    have kG := kG_; clear kG_
    have hBG_ := Nat.lt_of_lt_of_le hBG hb18b.size; clear hBG; have hBG := hBG_; clear hBG_
    have kY_ := box_next hb18b hBY kY; clear kY
    have kY := kY_; clear kY_
    have hBY_ := Nat.lt_of_lt_of_le hBY hb18b.size; clear hBY; have hBY := hBY_; clear hBY_
    have kH_ := box_next hb18b hBH kH; clear kH
    have kH := kH_; clear kH_
    have hBH_ := Nat.lt_of_lt_of_le hBH hb18b.size; clear hBH; have hBH := hBH_; clear hBH_
    have kZ_ := box_next hb18b hBZ kZ; clear kZ
    have kZ := kZ_; clear kZ_
    have hBZ_ := Nat.lt_of_lt_of_le hBZ hb18b.size; clear hBZ; have hBZ := hBZ_; clear hBZ_
    clear hb18; have hb18 := hb18b; clear hb18b
    have hT18 : Below w.heap.size w w18 := hT17.trans (hb18.mono hT17.size)
    have R3_ := Lib.hid (R3.out.keep hb18); clear R3; have R3 := R3_; clear R3_
    have R5_ := Lib.hid (R5.out.keep hb18); clear R5; have R5 := R5_; clear R5_
    have R15_ := Lib.hid (R15.out.keep hb18); clear R15; have R15 := R15_; clear R15_
    go_wp2
    go_ret
    exact ⟨rfl, hT18⟩
set_option maxRecDepth 100000 in
theorem lifted (os : Os) (started : os.Started) (H : Type) (enc : TypeId × Value → H) :
    ReturnsInHanded {} Try.checked os 5 .any (Rows.fnExactCompileSpec.pre6 enc Try.prog Try.f5 Rows.fnExactCompileRow.domain false) (Rows.fnExactCompileSpec.post enc Try.prog Try.f5 false true false false) := by
  refine returnsInHanded_of_change (C := Try.checked) own started (by kernel_rfl) Try.func5
    (ChangeSpec.witness6 (enc := enc) (C := Try.checked) false ⟨#[], #[.agg #[.slice none 0 0]], []⟩ 8 (by kernel_rfl) (by kernel_rfl) (by kernel_rfl) (by kernel_rfl)) ?_
  intro W base args ds gs before hval0 hW hcnd _
  have hval : ∀ (j : Nat) t v, Try.f5.params[j]? = some t → args[j]? = some v → Value.okWide Try.prog W .any base t v := hval0
  have hW' := hW
  obtain ⟨p, q, hA0, hV, rfl, hfz, hnd⟩ := hW
  have hA : DataW.TrodAll enc Try.prog W 0 (fun _ => true) true Try.f5.params.toList args.toList ds p := hA0
  rw [Try.params5] at hA hval
  obtain ⟨v0, vs0, d0, ds0, p0, q0, hargs, rfl, rfl, h0, r0⟩ := trodAll_cons hA
  obtain ⟨rfl, rfl, rfl⟩ := trodAll_nil r0
  obtain rfl : args = #[v0] := by cases args; simp_all
  obtain ⟨rfl, rfl⟩ := trodVars_none hV
  have k0 := h0
  have lt0 : ∀ x ∈ p0, x.block < W.heap.size := by obtain ⟨m, hm⟩ := k0; exact DataW.trod_lt m _ _ _ hm
  obtain ⟨x0, e0, w0⟩ := openRaw (hval 0 57 v0 rfl rfl) h0
  subst e0
  clear hA0 hval0
  refine (walk W x0 w0).mono fun e W' ⟨he, bel⟩ => ?_
  subst he
  exact ⟨_, rfl, _, _, _, [], _, [], hW', trodAll_mk1 (shut_bool Try.underlying4 _), (trodAll_cons_mk (Below.trod laidOut (by kernel_rfl) (of_decide_eq_true (by kernel_rfl)) k0 bel lt0) trodAll_mk0), rfl, bel.frame _, fun h => by cases h⟩
theorem over : Rows.fnExactCompileRow.holds Try.pinned (OpenSpec.ofChange Rows.fnExactCompileSpec) :=
  OpenClaim.holds_of_wide 5 Try.f5 rfl rfl rfl rfl rfl rfl rfl ⟨rfl, rfl, rfl, rfl, rfl⟩ rfl rfl rfl rfl rfl (by kernel_rfl) Try.func5 (by kernel_rfl)
    (of_decide_eq_true (by kernel_rfl)) (by unfold Func.isWrapper; first | (rw [if_pos (by decide +kernel)]; kernel_rfl) | (rw [if_neg (by decide +kernel)]; exact ⟨rfl, rfl⟩))
    (fun os started H enc _ => lifted os started H enc)
theorem proved : Rows.FnExactCompileSaid := over
end Go.Proofs.Ytbpilecgnfnndaa.fnExactCompile

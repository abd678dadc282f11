/- What the laws' own functions do with decoders. -/
import Derived.Test.YtigmdaiecdoimaaDec
namespace Go.Proofs.Ytigmdaiecdoimaa
set_option linter.unusedSimpArgs false
set_option linter.unusedVariables false
open Go.ChangeShapes Go.WideShapes Go.ChangeAt Go.RowKit Go.BigFrame

theorem toScan_any (b h : Int) (w : World) : Calls Try.prog 103 #[.agg #[.int .u64 b, .int .i64 h]] w fun r w' => r = .returned (.agg #[.int .u64 b, .int .i64 h]) ∧ Below w.heap.size w w' := by
  go_enter Try.func103, Try.ntmps103
  go_wp2
  exact bodyPost_ret (by simp [results, Try.results103, go_sem]; try rfl) rfl ⟨rfl, by ((repeat (first | (with_reducible exact Below.refl _ _) | (with_reducible assumption) | (with_reducible refine Below.alloc ?_ ?_ _) | (with_reducible refine Below.setCell ?_ ?_ _) | (with_reducible refine Below.drew ?_) | (with_reducible refine below_setRow ?_ ?_ _) | (refine Below.trans ?_ (Below.mono (by assumption) ?_)))); all_goals (first | omega | (simp; done) | (simp; omega)))⟩
theorem eqScan_same (b h : Int) (w : World) : Calls Try.prog 111 #[.agg #[.int .u64 b, .int .i64 h], .agg #[.int .u64 b, .int .i64 h]] w fun r w' => r = .returned (.bool true) ∧ Below w.heap.size w w' := by
  go_enter Try.func111, Try.ntmps111
  go_wp2
  go_ret
  exact ⟨rfl, by ((repeat (first | (with_reducible exact Below.refl _ _) | (with_reducible assumption) | (with_reducible refine Below.alloc ?_ ?_ _) | (with_reducible refine Below.setCell ?_ ?_ _) | (with_reducible refine Below.drew ?_) | (with_reducible refine below_setRow ?_ ?_ _) | (refine Below.trans ?_ (Below.mono (by assumption) ?_)))); all_goals (first | omega | (simp; done) | (simp; omega)))⟩
theorem toUtf_any (u : Ut) (w : World) : Calls Try.prog 105 #[u.val] w fun r w' => r = .returned u.val ∧ Below w.heap.size w w' := by
  go_enter Try.func105, Try.ntmps105
  go_wp2
  exact bodyPost_ret (by simp [results, Try.results105, go_sem]; try rfl) rfl ⟨rfl, by ((repeat (first | (with_reducible exact Below.refl _ _) | (with_reducible assumption) | (with_reducible refine Below.alloc ?_ ?_ _) | (with_reducible refine Below.setCell ?_ ?_ _) | (with_reducible refine Below.drew ?_) | (with_reducible refine below_setRow ?_ ?_ _) | (refine Below.trans ?_ (Below.mono (by assumption) ?_)))); all_goals (first | omega | (simp; done) | (simp; omega)))⟩
theorem eqUtf_same (u : Ut) (w : World) : Calls Try.prog 113 #[u.val, u.val] w fun r w' => r = .returned (.bool true) ∧ Below w.heap.size w w' := by
  go_enter Try.func113, Try.ntmps113
  go_wp2
  go_ret
  exact ⟨rfl, by ((repeat (first | (with_reducible exact Below.refl _ _) | (with_reducible assumption) | (with_reducible refine Below.alloc ?_ ?_ _) | (with_reducible refine Below.setCell ?_ ?_ _) | (with_reducible refine Below.drew ?_) | (with_reducible refine below_setRow ?_ ?_ _) | (refine Below.trans ?_ (Below.mono (by assumption) ?_)))); all_goals (first | omega | (simp; done) | (simp; omega)))⟩
theorem eqField_same (f : Fld) (w : World) : Calls Try.prog 112 #[f.val, f.val] w fun r w' => r = .returned (.bool true) ∧ Below w.heap.size w w' := by
  refine (eqField_any f f w).mono ?_
  rintro r w' ⟨rfl, hb⟩
  exact ⟨by simp, hb⟩
theorem eqEvent_same (f : Ev) (w : World) : Calls Try.prog 114 #[f.val, f.val] w fun r w' => r = .returned (.bool true) ∧ Below w.heap.size w w' := by
  refine (eqEvent_any f f w).mono ?_
  rintro r w' ⟨rfl, hb⟩
  exact ⟨by simp, hb⟩
set_option maxRecDepth 100000 in
set_option maxHeartbeats 2000000 in
theorem szDec_any (d : Dc) (a : Option Addr) (cap n : Nat) (xs : List Shp) (sa : Option Addr) (scap m : Nat) (ls : List Lvl) (left : Int) (w : World) (h : Shs w a xs) (hok : ∀ e ∈ xs, ShpOk e) (hd : d.ok) (hx : xs.length = n) (hl : ls.length = m) (hn : n ≤ maxLen) (hm : m ≤ maxLen) (h0 : 0 ≤ left) (h1 : left ≤ 1048576) :
    Calls Try.prog 39 #[d.val (.slice a n cap) (.slice sa m scap), .int .i64 left] w fun r w' => r = .returned (.int .i64 (szD left xs ls d.end_.text.size)) ∧ Below w.heap.size w w' := by
  have HX := Lib.hid hx; clear hx
  have HL := Lib.hid hl; clear hl
  have HSs := Lib.hid h; clear h
  by_cases hs1 : left < (xs.length : Int) + fldSum xs
  · have hq : szS left xs = -1 := if_pos hs1
    have H := Lib.hid (show szD left xs ls d.end_.text.size = -1 from if_pos (by omega))
    rw [H.out]
    go_enter Try.func39, Try.ntmps39
    go_wp2_with fail
    refine (szPlan_any _ _ _ _ xs _ _ (HSs.out.keep (by ((repeat (first | (with_reducible exact Below.refl _ _) | (with_reducible assumption) | (with_reducible refine Below.alloc ?_ ?_ _) | (with_reducible refine Below.setCell ?_ ?_ _) | (with_reducible refine Below.drew ?_) | (with_reducible refine below_setRow ?_ ?_ _) | (refine Below.trans ?_ (Below.mono (by assumption) ?_)))); all_goals (first | omega | (simp; done) | (simp; omega))))) hok HX.out hn h0 h1).mono ?_
    rintro r w1 ⟨rfl, hb1⟩
    have hz1 := hb1.size
    try simp only [World.size_alloc, World.size_setCell, World.size_drew] at hz1
    have hb1b : Below w.heap.size w w1 := by ((repeat (first | (with_reducible exact Below.refl _ _) | (with_reducible assumption) | (with_reducible refine Below.alloc ?_ ?_ _) | (with_reducible refine Below.setCell ?_ ?_ _) | (with_reducible refine Below.drew ?_) | (with_reducible refine below_setRow ?_ ?_ _) | (refine Below.trans ?_ (Below.mono (by assumption) ?_)))); all_goals (first | omega | (simp; done) | (simp; omega)))
    have kA := box_new0 hb1
    have hBA := box_lt0 hb1
    try simp only [World.size_alloc, World.size_setCell, World.size_drew] at kA
    try simp only [World.size_alloc, World.size_setCell, World.size_drew] at hBA
    clear hb1; have hb1 := hb1b; clear hb1b
    go_wp2
    go_ret
    exact ⟨rfl, by ((repeat (first | (with_reducible exact Below.refl _ _) | (with_reducible assumption) | (with_reducible refine Below.alloc ?_ ?_ _) | (with_reducible refine Below.setCell ?_ ?_ _) | (with_reducible refine Below.drew ?_) | (with_reducible refine below_setRow ?_ ?_ _) | (refine Below.trans ?_ (Below.mono (by assumption) ?_)))); all_goals (first | omega | (simp; done) | (simp; omega)))⟩
  · obtain ⟨q, hq, hq0, hq1⟩ : ∃ q : Int, szS left xs = q ∧ 0 ≤ q ∧ q ≤ 1048576 := ⟨_, rfl, by simp only [szS]; rw [if_neg hs1]; omega, by simp only [szS]; rw [if_neg hs1]; omega⟩
    have hqv : q = left - xs.length - fldSum xs := by rw [← hq]; simp only [szS]; rw [if_neg hs1]
    have HQV := Lib.hid hqv; clear hqv
    by_cases hs2 : q < m
    · have H := Lib.hid (show szD left xs ls d.end_.text.size = -1 from if_pos (by have := HQV.out; have := HL.out; omega))
      rw [H.out]
      have hq2 : (if q < m then (-1 : Int) else q - m) = -1 := if_pos hs2
      go_enter Try.func39, Try.ntmps39
      go_wp2_with fail
      refine (szPlan_any _ _ _ _ xs _ _ (HSs.out.keep (by ((repeat (first | (with_reducible exact Below.refl _ _) | (with_reducible assumption) | (with_reducible refine Below.alloc ?_ ?_ _) | (with_reducible refine Below.setCell ?_ ?_ _) | (with_reducible refine Below.drew ?_) | (with_reducible refine below_setRow ?_ ?_ _) | (refine Below.trans ?_ (Below.mono (by assumption) ?_)))); all_goals (first | omega | (simp; done) | (simp; omega))))) hok HX.out hn h0 h1).mono ?_
      rintro r w1 ⟨rfl, hb1⟩
      have hz1 := hb1.size
      try simp only [World.size_alloc, World.size_setCell, World.size_drew] at hz1
      have hb1b : Below w.heap.size w w1 := by ((repeat (first | (with_reducible exact Below.refl _ _) | (with_reducible assumption) | (with_reducible refine Below.alloc ?_ ?_ _) | (with_reducible refine Below.setCell ?_ ?_ _) | (with_reducible refine Below.drew ?_) | (with_reducible refine below_setRow ?_ ?_ _) | (refine Below.trans ?_ (Below.mono (by assumption) ?_)))); all_goals (first | omega | (simp; done) | (simp; omega)))
      have kA := box_new0 hb1
      have hBA := box_lt0 hb1
      try simp only [World.size_alloc, World.size_setCell, World.size_drew] at kA
      try simp only [World.size_alloc, World.size_setCell, World.size_drew] at hBA
      clear hb1; have hb1 := hb1b; clear hb1b
      go_wp2_with fail
      refine (szLevelS_any _ _ _ _ _ hm hq0 hq1).mono ?_
      rintro r w2 ⟨rfl, rfl⟩
      go_wp2
      go_ret
      exact ⟨rfl, by ((repeat (first | (with_reducible exact Below.refl _ _) | (with_reducible assumption) | (with_reducible refine Below.alloc ?_ ?_ _) | (with_reducible refine Below.setCell ?_ ?_ _) | (with_reducible refine Below.drew ?_) | (with_reducible refine below_setRow ?_ ?_ _) | (refine Below.trans ?_ (Below.mono (by assumption) ?_)))); all_goals (first | omega | (simp; done) | (simp; omega)))⟩
    · obtain ⟨q', hq2, hq3, hq4⟩ : ∃ q' : Int, (if q < m then (-1 : Int) else q - m) = q' ∧ 0 ≤ q' ∧ q' ≤ 1048576 := ⟨_, rfl, by rw [if_neg hs2]; omega, by rw [if_neg hs2]; omega⟩
      have hqw : q' = q - m := by rw [← hq2, if_neg hs2]
      have HQW := Lib.hid hqw; clear hqw
      obtain ⟨q2, hq5, hq6⟩ : ∃ q2 : Int, (if q' < d.end_.text.size then (-1 : Int) else q' - d.end_.text.size) = q2 ∧ Hid (q2 = szD left xs ls d.end_.text.size) := ⟨_, rfl, Lib.hid (by
        have := HQV.out; have := HQW.out; have := HL.out
        simp only [szD]
        split <;> split <;> omega)⟩
      rw [← hq6.out]
      by_cases hs3 : q' < d.end_.text.size
      · have hq7 : q2 = -1 := by rw [← hq5, if_pos hs3]
        subst hq7
        go_enter Try.func39, Try.ntmps39
        go_wp2_with fail
        refine (szPlan_any _ _ _ _ xs _ _ (HSs.out.keep (by ((repeat (first | (with_reducible exact Below.refl _ _) | (with_reducible assumption) | (with_reducible refine Below.alloc ?_ ?_ _) | (with_reducible refine Below.setCell ?_ ?_ _) | (with_reducible refine Below.drew ?_) | (with_reducible refine below_setRow ?_ ?_ _) | (refine Below.trans ?_ (Below.mono (by assumption) ?_)))); all_goals (first | omega | (simp; done) | (simp; omega))))) hok HX.out hn h0 h1).mono ?_
        rintro r w1 ⟨rfl, hb1⟩
        have hz1 := hb1.size
        try simp only [World.size_alloc, World.size_setCell, World.size_drew] at hz1
        have hb1b : Below w.heap.size w w1 := by ((repeat (first | (with_reducible exact Below.refl _ _) | (with_reducible assumption) | (with_reducible refine Below.alloc ?_ ?_ _) | (with_reducible refine Below.setCell ?_ ?_ _) | (with_reducible refine Below.drew ?_) | (with_reducible refine below_setRow ?_ ?_ _) | (refine Below.trans ?_ (Below.mono (by assumption) ?_)))); all_goals (first | omega | (simp; done) | (simp; omega)))
        have kA := box_new0 hb1
        have hBA := box_lt0 hb1
        try simp only [World.size_alloc, World.size_setCell, World.size_drew] at kA
        try simp only [World.size_alloc, World.size_setCell, World.size_drew] at hBA
        clear hb1; have hb1 := hb1b; clear hb1b
        go_wp2_with fail
        refine (szLevelS_any _ _ _ _ _ hm hq0 hq1).mono ?_
        rintro r w2 ⟨rfl, rfl⟩
        go_wp2_with fail
        refine (szEvent_any d.end_ _ hd.end_ (by omega) (by omega) _).mono ?_
        rintro r w3 ⟨rfl, hb3⟩
        go_wp2
        go_ret
        exact ⟨rfl, by ((repeat (first | (with_reducible exact Below.refl _ _) | (with_reducible assumption) | (with_reducible refine Below.alloc ?_ ?_ _) | (with_reducible refine Below.setCell ?_ ?_ _) | (with_reducible refine Below.drew ?_) | (with_reducible refine below_setRow ?_ ?_ _) | (refine Below.trans ?_ (Below.mono (by assumption) ?_)))); all_goals (first | omega | (simp; done) | (simp; omega)))⟩
      · have hq8 : 0 ≤ q2 := by rw [← hq5, if_neg hs3]; omega
        go_enter Try.func39, Try.ntmps39
        go_wp2_with fail
        refine (szPlan_any _ _ _ _ xs _ _ (HSs.out.keep (by ((repeat (first | (with_reducible exact Below.refl _ _) | (with_reducible assumption) | (with_reducible refine Below.alloc ?_ ?_ _) | (with_reducible refine Below.setCell ?_ ?_ _) | (with_reducible refine Below.drew ?_) | (with_reducible refine below_setRow ?_ ?_ _) | (refine Below.trans ?_ (Below.mono (by assumption) ?_)))); all_goals (first | omega | (simp; done) | (simp; omega))))) hok HX.out hn h0 h1).mono ?_
        rintro r w1 ⟨rfl, hb1⟩
        have hz1 := hb1.size
        try simp only [World.size_alloc, World.size_setCell, World.size_drew] at hz1
        have hb1b : Below w.heap.size w w1 := by ((repeat (first | (with_reducible exact Below.refl _ _) | (with_reducible assumption) | (with_reducible refine Below.alloc ?_ ?_ _) | (with_reducible refine Below.setCell ?_ ?_ _) | (with_reducible refine Below.drew ?_) | (with_reducible refine below_setRow ?_ ?_ _) | (refine Below.trans ?_ (Below.mono (by assumption) ?_)))); all_goals (first | omega | (simp; done) | (simp; omega)))
        have kA := box_new0 hb1
        have hBA := box_lt0 hb1
        try simp only [World.size_alloc, World.size_setCell, World.size_drew] at kA
        try simp only [World.size_alloc, World.size_setCell, World.size_drew] at hBA
        clear hb1; have hb1 := hb1b; clear hb1b
        go_wp2_with fail
        refine (szLevelS_any _ _ _ _ _ hm hq0 hq1).mono ?_
        rintro r w2 ⟨rfl, rfl⟩
        go_wp2_with fail
        refine (szEvent_any d.end_ _ hd.end_ (by omega) (by omega) _).mono ?_
        rintro r w3 ⟨rfl, hb3⟩
        go_wp2
        go_ret
        exact ⟨rfl, by ((repeat (first | (with_reducible exact Below.refl _ _) | (with_reducible assumption) | (with_reducible refine Below.alloc ?_ ?_ _) | (with_reducible refine Below.setCell ?_ ?_ _) | (with_reducible refine Below.drew ?_) | (with_reducible refine below_setRow ?_ ?_ _) | (refine Below.trans ?_ (Below.mono (by assumption) ?_)))); all_goals (first | omega | (simp; done) | (simp; omega)))⟩
end Go.Proofs.Ytigmdaiecdoimaa

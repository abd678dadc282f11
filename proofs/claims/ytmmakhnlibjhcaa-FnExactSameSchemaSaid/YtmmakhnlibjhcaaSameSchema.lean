/- FnExactSameSchema: for every two schemas the program's SameSchema returns what the reference's returns, and both are left as they were. No condition. -/
import Derived.Test.YtmmakhnlibjhcaaSame
import Derived.Test.YtmmakhnlibjhcaaOpen
namespace Go.Proofs.Ytmmakhnlibjhcaa.fnExactSameSchema
set_option linter.unusedSimpArgs false
set_option linter.unusedVariables false
open Go.ChangeShapes Go.WideShapes Go.ChangeAt Go.RowKit

set_option maxRecDepth 100000 in
set_option maxHeartbeats 4000000 in
theorem walk (w : World) (x : ShArg) (hx : x.ok w) (y : ShArg) (hy : y.ok w) :
    Calls Try.prog 5 #[.agg #[x.sl], .agg #[y.sl]] w fun r w' => r = .returned (.bool true) ∧ Below w.heap.size w w' := by
  obtain ⟨a, cap, xs⟩ := x
  obtain ⟨hsl, hok, hle, hcap⟩ := hx
  obtain ⟨a', cap', ys⟩ := y
  obtain ⟨hsl', hok', hle', hcap'⟩ := hy
  simp only at hsl hok hle hcap hsl' hok' hle' hcap'
  have hmx : xs.length ≤ maxLen := Nat.le_trans hle hcap
  have hmy : ys.length ≤ maxLen := Nat.le_trans hle' hcap'
  by_cases hs : (1048576 : Int) < (xs.length : Int) + fldSum xs
  · have hs' : szS 1048576 xs = -1 := by simp only [szS]; rw [if_pos hs]
    go_enter Try.func5, Try.ntmps5
    go_wp2_with fail
    refine (szSchema_any _ _ _ xs _ _ (by (first | assumption | exact Shs.keep (by assumption) (by ((repeat (first | (with_reducible exact Below.refl _ _) | (with_reducible assumption) | (with_reducible refine Below.alloc ?_ ?_ _) | (with_reducible refine Below.setCell ?_ ?_ _) | (with_reducible refine Below.drew ?_) | (refine Below.trans ?_ (Below.mono (by assumption) ?_)))); all_goals (first | omega | (simp; done) | (simp; omega)))) | exact Sl.keep (by assumption) (by ((repeat (first | (with_reducible exact Below.refl _ _) | (with_reducible assumption) | (with_reducible refine Below.alloc ?_ ?_ _) | (with_reducible refine Below.setCell ?_ ?_ _) | (with_reducible refine Below.drew ?_) | (refine Below.trans ?_ (Below.mono (by assumption) ?_)))); all_goals (first | omega | (simp; done) | (simp; omega)))))) hok rfl hmx (by omega) (by omega)).mono ?_
    rintro r w1 ⟨rfl, hb1⟩
    have hz1 := hb1.size
    try simp only [World.size_alloc, World.size_setCell, World.size_drew] at hz1
    have hb1b : Below w.heap.size w w1 := by ((repeat (first | (with_reducible exact Below.refl _ _) | (with_reducible assumption) | (with_reducible refine Below.alloc ?_ ?_ _) | (with_reducible refine Below.setCell ?_ ?_ _) | (with_reducible refine Below.drew ?_) | (refine Below.trans ?_ (Below.mono (by assumption) ?_)))); all_goals (first | omega | (simp; done) | (simp; omega)))
    have kB := box_new0 hb1
    have hBB := box_lt0 hb1
    try simp only [World.size_alloc, World.size_setCell, World.size_drew] at kB
    try simp only [World.size_alloc, World.size_setCell, World.size_drew] at hBB
    have kA := box_new1 hb1
    have hBA := box_lt1 hb1
    try simp only [World.size_alloc, World.size_setCell, World.size_drew] at kA
    try simp only [World.size_alloc, World.size_setCell, World.size_drew] at hBA
    clear hb1; have hb1 := hb1b; clear hb1b
    go_wp2
    go_ret
    exact ⟨rfl, by ((repeat (first | (with_reducible exact Below.refl _ _) | (with_reducible assumption) | (with_reducible refine Below.alloc ?_ ?_ _) | (with_reducible refine Below.setCell ?_ ?_ _) | (with_reducible refine Below.drew ?_) | (refine Below.trans ?_ (Below.mono (by assumption) ?_)))); all_goals (first | omega | (simp; done) | (simp; omega)))⟩
  · have hn : xs.length ≤ 1048576 := by omega
    have hm : fldSum xs ≤ 1048576 := by omega
    obtain ⟨m, hmq, hm0, hm1⟩ : ∃ m : Int, szS 1048576 xs = m ∧ 0 ≤ m ∧ m ≤ 1048576 := ⟨_, rfl, by simp only [szS]; rw [if_neg hs]; omega, by simp only [szS]; rw [if_neg hs]; omega⟩
    by_cases hs2 : m < (ys.length : Int) + fldSum ys
    · have hs2' : szS m ys = -1 := by simp only [szS]; rw [if_pos hs2]
      go_enter Try.func5, Try.ntmps5
      go_wp2_with fail
      refine (szSchema_any _ _ _ xs _ _ (by (first | assumption | exact Shs.keep (by assumption) (by ((repeat (first | (with_reducible exact Below.refl _ _) | (with_reducible assumption) | (with_reducible refine Below.alloc ?_ ?_ _) | (with_reducible refine Below.setCell ?_ ?_ _) | (with_reducible refine Below.drew ?_) | (refine Below.trans ?_ (Below.mono (by assumption) ?_)))); all_goals (first | omega | (simp; done) | (simp; omega)))) | exact Sl.keep (by assumption) (by ((repeat (first | (with_reducible exact Below.refl _ _) | (with_reducible assumption) | (with_reducible refine Below.alloc ?_ ?_ _) | (with_reducible refine Below.setCell ?_ ?_ _) | (with_reducible refine Below.drew ?_) | (refine Below.trans ?_ (Below.mono (by assumption) ?_)))); all_goals (first | omega | (simp; done) | (simp; omega)))))) hok rfl hmx (by omega) (by omega)).mono ?_
      rintro r w1 ⟨rfl, hb1⟩
      have hz1 := hb1.size
      try simp only [World.size_alloc, World.size_setCell, World.size_drew] at hz1
      have hb1b : Below w.heap.size w w1 := by ((repeat (first | (with_reducible exact Below.refl _ _) | (with_reducible assumption) | (with_reducible refine Below.alloc ?_ ?_ _) | (with_reducible refine Below.setCell ?_ ?_ _) | (with_reducible refine Below.drew ?_) | (refine Below.trans ?_ (Below.mono (by assumption) ?_)))); all_goals (first | omega | (simp; done) | (simp; omega)))
      have kB := box_new0 hb1
      have hBB := box_lt0 hb1
      try simp only [World.size_alloc, World.size_setCell, World.size_drew] at kB
      try simp only [World.size_alloc, World.size_setCell, World.size_drew] at hBB
      have kA := box_new1 hb1
      have hBA := box_lt1 hb1
      try simp only [World.size_alloc, World.size_setCell, World.size_drew] at kA
      try simp only [World.size_alloc, World.size_setCell, World.size_drew] at hBA
      clear hb1; have hb1 := hb1b; clear hb1b
      go_wp2_with fail
      refine (szSchema_any _ _ _ ys _ _ (by (first | assumption | exact Shs.keep (by assumption) (by ((repeat (first | (with_reducible exact Below.refl _ _) | (with_reducible assumption) | (with_reducible refine Below.alloc ?_ ?_ _) | (with_reducible refine Below.setCell ?_ ?_ _) | (with_reducible refine Below.drew ?_) | (refine Below.trans ?_ (Below.mono (by assumption) ?_)))); all_goals (first | omega | (simp; done) | (simp; omega)))) | exact Sl.keep (by assumption) (by ((repeat (first | (with_reducible exact Below.refl _ _) | (with_reducible assumption) | (with_reducible refine Below.alloc ?_ ?_ _) | (with_reducible refine Below.setCell ?_ ?_ _) | (with_reducible refine Below.drew ?_) | (refine Below.trans ?_ (Below.mono (by assumption) ?_)))); all_goals (first | omega | (simp; done) | (simp; omega)))))) hok' rfl hmy (by omega) (by omega)).mono ?_
      rintro r w2 ⟨rfl, hb2⟩
      have hz2 := hb2.size
      try simp only [World.size_alloc, World.size_setCell, World.size_drew] at hz2
      have hb2b : Below w1.heap.size w1 w2 := by ((repeat (first | (with_reducible exact Below.refl _ _) | (with_reducible assumption) | (with_reducible refine Below.alloc ?_ ?_ _) | (with_reducible refine Below.setCell ?_ ?_ _) | (with_reducible refine Below.drew ?_) | (refine Below.trans ?_ (Below.mono (by assumption) ?_)))); all_goals (first | omega | (simp; done) | (simp; omega)))
      have kA_ := box_next hb2b hBA kA; clear kA
      have kA := kA_; clear kA_
      have hBA_ := Nat.lt_of_lt_of_le hBA hb2b.size; clear hBA; have hBA := hBA_; clear hBA_
      have kB_ := box_next hb2b hBB kB; clear kB
      have kB := kB_; clear kB_
      have hBB_ := Nat.lt_of_lt_of_le hBB hb2b.size; clear hBB; have hBB := hBB_; clear hBB_
      clear hb2; have hb2 := hb2b; clear hb2b
      go_wp2
      go_ret
      exact ⟨rfl, by ((repeat (first | (with_reducible exact Below.refl _ _) | (with_reducible assumption) | (with_reducible refine Below.alloc ?_ ?_ _) | (with_reducible refine Below.setCell ?_ ?_ _) | (with_reducible refine Below.drew ?_) | (refine Below.trans ?_ (Below.mono (by assumption) ?_)))); all_goals (first | omega | (simp; done) | (simp; omega)))⟩
    · have hn2 : ys.length ≤ 1048576 := by omega
      have hm2 : fldSum ys ≤ 1048576 := by omega
      have hs2' : 0 ≤ szS m ys := by simp only [szS]; rw [if_neg hs2]; omega
      obtain ⟨q, hq⟩ : ∃ q, decide (xs = ys) = q := ⟨_, rfl⟩
      have HQ := Lib.hid hq; clear hq
      go_enter Try.func5, Try.ntmps5
      go_wp2_with fail
      refine (szSchema_any _ _ _ xs _ _ (by (first | assumption | exact Shs.keep (by assumption) (by ((repeat (first | (with_reducible exact Below.refl _ _) | (with_reducible assumption) | (with_reducible refine Below.alloc ?_ ?_ _) | (with_reducible refine Below.setCell ?_ ?_ _) | (with_reducible refine Below.drew ?_) | (refine Below.trans ?_ (Below.mono (by assumption) ?_)))); all_goals (first | omega | (simp; done) | (simp; omega)))) | exact Sl.keep (by assumption) (by ((repeat (first | (with_reducible exact Below.refl _ _) | (with_reducible assumption) | (with_reducible refine Below.alloc ?_ ?_ _) | (with_reducible refine Below.setCell ?_ ?_ _) | (with_reducible refine Below.drew ?_) | (refine Below.trans ?_ (Below.mono (by assumption) ?_)))); all_goals (first | omega | (simp; done) | (simp; omega)))))) hok rfl hmx (by omega) (by omega)).mono ?_
      rintro r w1 ⟨rfl, hb1⟩
      have hz1 := hb1.size
      try simp only [World.size_alloc, World.size_setCell, World.size_drew] at hz1
      have hb1b : Below w.heap.size w w1 := by ((repeat (first | (with_reducible exact Below.refl _ _) | (with_reducible assumption) | (with_reducible refine Below.alloc ?_ ?_ _) | (with_reducible refine Below.setCell ?_ ?_ _) | (with_reducible refine Below.drew ?_) | (refine Below.trans ?_ (Below.mono (by assumption) ?_)))); all_goals (first | omega | (simp; done) | (simp; omega)))
      have kB := box_new0 hb1
      have hBB := box_lt0 hb1
      try simp only [World.size_alloc, World.size_setCell, World.size_drew] at kB
      try simp only [World.size_alloc, World.size_setCell, World.size_drew] at hBB
      have kA := box_new1 hb1
      have hBA := box_lt1 hb1
      try simp only [World.size_alloc, World.size_setCell, World.size_drew] at kA
      try simp only [World.size_alloc, World.size_setCell, World.size_drew] at hBA
      clear hb1; have hb1 := hb1b; clear hb1b
      go_wp2_with fail
      refine (szSchema_any _ _ _ ys _ _ (by (first | assumption | exact Shs.keep (by assumption) (by ((repeat (first | (with_reducible exact Below.refl _ _) | (with_reducible assumption) | (with_reducible refine Below.alloc ?_ ?_ _) | (with_reducible refine Below.setCell ?_ ?_ _) | (with_reducible refine Below.drew ?_) | (refine Below.trans ?_ (Below.mono (by assumption) ?_)))); all_goals (first | omega | (simp; done) | (simp; omega)))) | exact Sl.keep (by assumption) (by ((repeat (first | (with_reducible exact Below.refl _ _) | (with_reducible assumption) | (with_reducible refine Below.alloc ?_ ?_ _) | (with_reducible refine Below.setCell ?_ ?_ _) | (with_reducible refine Below.drew ?_) | (refine Below.trans ?_ (Below.mono (by assumption) ?_)))); all_goals (first | omega | (simp; done) | (simp; omega)))))) hok' rfl hmy (by omega) (by omega)).mono ?_
      rintro r w2 ⟨rfl, hb2⟩
      have hz2 := hb2.size
      try simp only [World.size_alloc, World.size_setCell, World.size_drew] at hz2
      have hb2b : Below w1.heap.size w1 w2 := by ((repeat (first | (with_reducible exact Below.refl _ _) | (with_reducible assumption) | (with_reducible refine Below.alloc ?_ ?_ _) | (with_reducible refine Below.setCell ?_ ?_ _) | (with_reducible refine Below.drew ?_) | (refine Below.trans ?_ (Below.mono (by assumption) ?_)))); all_goals (first | omega | (simp; done) | (simp; omega)))
      have kA_ := box_next hb2b hBA kA; clear kA
      have kA := kA_; clear kA_
      have hBA_ := Nat.lt_of_lt_of_le hBA hb2b.size; clear hBA; have hBA := hBA_; clear hBA_
      have kB_ := box_next hb2b hBB kB; clear kB
      have kB := kB_; clear kB_
      have hBB_ := Nat.lt_of_lt_of_le hBB hb2b.size; clear hBB; have hBB := hBB_; clear hBB_
      clear hb2; have hb2 := hb2b; clear hb2b
      go_wp2_with fail
      go_region_held3 (fun w' => (∀ i, w'.cell? ⟨w.heap.size, i, none⟩ = (#[.slice a xs.length cap] : Array Value)[i]?) ∧ (∀ i, w'.cell? ⟨w.heap.size + 1, i, none⟩ = (#[.slice a' ys.length cap'] : Array Value)[i]?) ∧ Below w2.heap.size w2 w') (first | assumption | exact ⟨kA, kB, (Below.refl _ _).drew⟩) (first | (go_at_call 17; have hS3a := held_last2 (by assumption); have hs3a_ := hS3a.size; refine (toSchema_any a cap _ xs _ (by (first | assumption | exact Shs.keep (by assumption) (by ((repeat (first | (with_reducible exact Below.refl _ _) | (with_reducible assumption) | (with_reducible refine Below.alloc ?_ ?_ _) | (with_reducible refine Below.setCell ?_ ?_ _) | (with_reducible refine Below.drew ?_) | (refine Below.trans ?_ (Below.mono (by assumption) ?_)))); all_goals (first | omega | (simp; done) | (simp; omega)))) | exact Sl.keep (by assumption) (by ((repeat (first | (with_reducible exact Below.refl _ _) | (with_reducible assumption) | (with_reducible refine Below.alloc ?_ ?_ _) | (with_reducible refine Below.setCell ?_ ?_ _) | (with_reducible refine Below.drew ?_) | (refine Below.trans ?_ (Below.mono (by assumption) ?_)))); all_goals (first | omega | (simp; done) | (simp; omega)))))) rfl hn hm).mono ?_; rintro r w3a ⟨a3a, cap3a, rs3a, rfl, ho3a, hb3a⟩; have hz3a := hb3a.size; have hT3a := held_next2 (by assumption) hb3a (by omega) (by omega); have hs3a := ho3a.shs; clear ho3a) | (go_at_call 17; have hS3b := held_last2 (by assumption); have hs3b_ := hS3b.size; refine (toSchema_any a' cap' _ ys _ (by (first | assumption | exact Shs.keep (by assumption) (by ((repeat (first | (with_reducible exact Below.refl _ _) | (with_reducible assumption) | (with_reducible refine Below.alloc ?_ ?_ _) | (with_reducible refine Below.setCell ?_ ?_ _) | (with_reducible refine Below.drew ?_) | (refine Below.trans ?_ (Below.mono (by assumption) ?_)))); all_goals (first | omega | (simp; done) | (simp; omega)))) | exact Sl.keep (by assumption) (by ((repeat (first | (with_reducible exact Below.refl _ _) | (with_reducible assumption) | (with_reducible refine Below.alloc ?_ ?_ _) | (with_reducible refine Below.setCell ?_ ?_ _) | (with_reducible refine Below.drew ?_) | (refine Below.trans ?_ (Below.mono (by assumption) ?_)))); all_goals (first | omega | (simp; done) | (simp; omega)))))) rfl hn2 hm2).mono ?_; rintro r w3b ⟨a3b, cap3b, rs3b, rfl, ho3b, hb3b⟩; have hz3b := hb3b.size; have hT3b := held_next2 (by assumption) hb3b (by omega) (by omega); have hs3b := ho3b.shs; clear ho3b) | (go_at_call 23; have hS3c := held_last2 (by assumption); have hs3c_ := hS3c.size; refine (specSameSchema_any _ _ _ _ _ _ xs ys _ (by (first | assumption | exact Shs.keep (by assumption) (by ((repeat (first | (with_reducible exact Below.refl _ _) | (with_reducible assumption) | (with_reducible refine Below.alloc ?_ ?_ _) | (with_reducible refine Below.setCell ?_ ?_ _) | (with_reducible refine Below.drew ?_) | (refine Below.trans ?_ (Below.mono (by assumption) ?_)))); all_goals (first | omega | (simp; done) | (simp; omega)))) | exact Sl.keep (by assumption) (by ((repeat (first | (with_reducible exact Below.refl _ _) | (with_reducible assumption) | (with_reducible refine Below.alloc ?_ ?_ _) | (with_reducible refine Below.setCell ?_ ?_ _) | (with_reducible refine Below.drew ?_) | (refine Below.trans ?_ (Below.mono (by assumption) ?_)))); all_goals (first | omega | (simp; done) | (simp; omega)))))) (by (first | assumption | exact Shs.keep (by assumption) (by ((repeat (first | (with_reducible exact Below.refl _ _) | (with_reducible assumption) | (with_reducible refine Below.alloc ?_ ?_ _) | (with_reducible refine Below.setCell ?_ ?_ _) | (with_reducible refine Below.drew ?_) | (refine Below.trans ?_ (Below.mono (by assumption) ?_)))); all_goals (first | omega | (simp; done) | (simp; omega)))) | exact Sl.keep (by assumption) (by ((repeat (first | (with_reducible exact Below.refl _ _) | (with_reducible assumption) | (with_reducible refine Below.alloc ?_ ?_ _) | (with_reducible refine Below.setCell ?_ ?_ _) | (with_reducible refine Below.drew ?_) | (refine Below.trans ?_ (Below.mono (by assumption) ?_)))); all_goals (first | omega | (simp; done) | (simp; omega)))))) rfl rfl hn hn2 hm hm2).mono ?_; rintro r w3c ⟨rfl, hb3c⟩; have hz3c := hb3c.size; have hT3c := held_next2 (by assumption) hb3c (by omega) (by omega); rw [HQ.out]))
      obtain ⟨kA_, kB_, hbT3⟩ := hT3c
      clear kA; have kA := kA_; clear kA_
      have hBA_ := Nat.lt_of_lt_of_le hBA hbT3.size; clear hBA; have hBA := hBA_; clear hBA_
      clear kB; have kB := kB_; clear kB_
      have hBB_ := Nat.lt_of_lt_of_le hBB hbT3.size; clear hBB; have hBB := hBB_; clear hBB_
      go_wp2_with fail
      refine (toSchema_any a cap _ xs _ (by (first | assumption | exact Shs.keep (by assumption) (by ((repeat (first | (with_reducible exact Below.refl _ _) | (with_reducible assumption) | (with_reducible refine Below.alloc ?_ ?_ _) | (with_reducible refine Below.setCell ?_ ?_ _) | (with_reducible refine Below.drew ?_) | (refine Below.trans ?_ (Below.mono (by assumption) ?_)))); all_goals (first | omega | (simp; done) | (simp; omega)))) | exact Sl.keep (by assumption) (by ((repeat (first | (with_reducible exact Below.refl _ _) | (with_reducible assumption) | (with_reducible refine Below.alloc ?_ ?_ _) | (with_reducible refine Below.setCell ?_ ?_ _) | (with_reducible refine Below.drew ?_) | (refine Below.trans ?_ (Below.mono (by assumption) ?_)))); all_goals (first | omega | (simp; done) | (simp; omega)))))) rfl hn hm).mono ?_
      rintro r w6 ⟨a6, cap6, rs6, rfl, ho6, hb6⟩
      have hz6 := hb6.size
      try simp only [World.size_alloc, World.size_setCell, World.size_drew] at hz6
      have hb6b : Below w3c.heap.size w3c w6 := by ((repeat (first | (with_reducible exact Below.refl _ _) | (with_reducible assumption) | (with_reducible refine Below.alloc ?_ ?_ _) | (with_reducible refine Below.setCell ?_ ?_ _) | (with_reducible refine Below.drew ?_) | (refine Below.trans ?_ (Below.mono (by assumption) ?_)))); all_goals (first | omega | (simp; done) | (simp; omega)))
      have kA_ := box_next hb6b hBA kA; clear kA
      have kA := kA_; clear kA_
      have hBA_ := Nat.lt_of_lt_of_le hBA hb6b.size; clear hBA; have hBA := hBA_; clear hBA_
      have kB_ := box_next hb6b hBB kB; clear kB
      have kB := kB_; clear kB_
      have hBB_ := Nat.lt_of_lt_of_le hBB hb6b.size; clear hBB; have hBB := hBB_; clear hBB_
      clear hb6; have hb6 := hb6b; clear hb6b
      have hs6 := ho6.shs
      clear ho6
      go_wp2_with fail
      refine (toSchema_any a' cap' _ ys _ (by (first | assumption | exact Shs.keep (by assumption) (by ((repeat (first | (with_reducible exact Below.refl _ _) | (with_reducible assumption) | (with_reducible refine Below.alloc ?_ ?_ _) | (with_reducible refine Below.setCell ?_ ?_ _) | (with_reducible refine Below.drew ?_) | (refine Below.trans ?_ (Below.mono (by assumption) ?_)))); all_goals (first | omega | (simp; done) | (simp; omega)))) | exact Sl.keep (by assumption) (by ((repeat (first | (with_reducible exact Below.refl _ _) | (with_reducible assumption) | (with_reducible refine Below.alloc ?_ ?_ _) | (with_reducible refine Below.setCell ?_ ?_ _) | (with_reducible refine Below.drew ?_) | (refine Below.trans ?_ (Below.mono (by assumption) ?_)))); all_goals (first | omega | (simp; done) | (simp; omega)))))) rfl hn2 hm2).mono ?_
      rintro r w7 ⟨a7, cap7, rs7, rfl, ho7, hb7⟩
      have hz7 := hb7.size
      try simp only [World.size_alloc, World.size_setCell, World.size_drew] at hz7
      have hb7b : Below w6.heap.size w6 w7 := by ((repeat (first | (with_reducible exact Below.refl _ _) | (with_reducible assumption) | (with_reducible refine Below.alloc ?_ ?_ _) | (with_reducible refine Below.setCell ?_ ?_ _) | (with_reducible refine Below.drew ?_) | (refine Below.trans ?_ (Below.mono (by assumption) ?_)))); all_goals (first | omega | (simp; done) | (simp; omega)))
      have kA_ := box_next hb7b hBA kA; clear kA
      have kA := kA_; clear kA_
      have hBA_ := Nat.lt_of_lt_of_le hBA hb7b.size; clear hBA; have hBA := hBA_; clear hBA_
      have kB_ := box_next hb7b hBB kB; clear kB
      have kB := kB_; clear kB_
      have hBB_ := Nat.lt_of_lt_of_le hBB hb7b.size; clear hBB; have hBB := hBB_; clear hBB_
      have kX := box_new0 hb7
      have hBX := box_lt0 hb7
      try simp only [World.size_alloc, World.size_setCell, World.size_drew] at kX
      try simp only [World.size_alloc, World.size_setCell, World.size_drew] at hBX
      clear hb7; have hb7 := hb7b; clear hb7b
      have hs7 := ho7.shs
      clear ho7
      go_wp2_with fail
      refine (implSameSchema_any _ _ _ _ _ _ xs ys _ (by (first | assumption | exact Shs.keep (by assumption) (by ((repeat (first | (with_reducible exact Below.refl _ _) | (with_reducible assumption) | (with_reducible refine Below.alloc ?_ ?_ _) | (with_reducible refine Below.setCell ?_ ?_ _) | (with_reducible refine Below.drew ?_) | (refine Below.trans ?_ (Below.mono (by assumption) ?_)))); all_goals (first | omega | (simp; done) | (simp; omega)))) | exact Sl.keep (by assumption) (by ((repeat (first | (with_reducible exact Below.refl _ _) | (with_reducible assumption) | (with_reducible refine Below.alloc ?_ ?_ _) | (with_reducible refine Below.setCell ?_ ?_ _) | (with_reducible refine Below.drew ?_) | (refine Below.trans ?_ (Below.mono (by assumption) ?_)))); all_goals (first | omega | (simp; done) | (simp; omega)))))) (by (first | assumption | exact Shs.keep (by assumption) (by ((repeat (first | (with_reducible exact Below.refl _ _) | (with_reducible assumption) | (with_reducible refine Below.alloc ?_ ?_ _) | (with_reducible refine Below.setCell ?_ ?_ _) | (with_reducible refine Below.drew ?_) | (refine Below.trans ?_ (Below.mono (by assumption) ?_)))); all_goals (first | omega | (simp; done) | (simp; omega)))) | exact Sl.keep (by assumption) (by ((repeat (first | (with_reducible exact Below.refl _ _) | (with_reducible assumption) | (with_reducible refine Below.alloc ?_ ?_ _) | (with_reducible refine Below.setCell ?_ ?_ _) | (with_reducible refine Below.drew ?_) | (refine Below.trans ?_ (Below.mono (by assumption) ?_)))); all_goals (first | omega | (simp; done) | (simp; omega)))))) rfl rfl hn hn2 hm hm2).mono ?_
      rintro r w8 ⟨rfl, hb8⟩
      have hz8 := hb8.size
      try simp only [World.size_alloc, World.size_setCell, World.size_drew] at hz8
      have hb8b : Below w7.heap.size w7 w8 := by ((repeat (first | (with_reducible exact Below.refl _ _) | (with_reducible assumption) | (with_reducible refine Below.alloc ?_ ?_ _) | (with_reducible refine Below.setCell ?_ ?_ _) | (with_reducible refine Below.drew ?_) | (refine Below.trans ?_ (Below.mono (by assumption) ?_)))); all_goals (first | omega | (simp; done) | (simp; omega)))
      have kA_ := box_next hb8b hBA kA; clear kA
      have kA := kA_; clear kA_
      have hBA_ := Nat.lt_of_lt_of_le hBA hb8b.size; clear hBA; have hBA := hBA_; clear hBA_
      have kB_ := box_next hb8b hBB kB; clear kB
      have kB := kB_; clear kB_
      have hBB_ := Nat.lt_of_lt_of_le hBB hb8b.size; clear hBB; have hBB := hBB_; clear hBB_
      have kX_ := box_next hb8b hBX kX; clear kX
      have kX := kX_; clear kX_
      have hBX_ := Nat.lt_of_lt_of_le hBX hb8b.size; clear hBX; have hBX := hBX_; clear hBX_
      have kY := box_new0 hb8
      have hBY := box_lt0 hb8
      try simp only [World.size_alloc, World.size_setCell, World.size_drew] at kY
      try simp only [World.size_alloc, World.size_setCell, World.size_drew] at hBY
      clear hb8; have hb8 := hb8b; clear hb8b
      rw [HQ.out]
      go_wp2_with fail
      go_region_held3 (fun w' => (∀ i, w'.cell? ⟨w6.heap.size, i, none⟩ = (#[.slice a6 xs.length cap6] : Array Value)[i]?) ∧ (∀ i, w'.cell? ⟨w7.heap.size, i, none⟩ = (#[.slice a7 ys.length cap7] : Array Value)[i]?) ∧ (∀ i, w'.cell? ⟨w.heap.size, i, none⟩ = (#[.slice a xs.length cap] : Array Value)[i]?) ∧ (∀ i, w'.cell? ⟨w.heap.size + 1, i, none⟩ = (#[.slice a' ys.length cap'] : Array Value)[i]?) ∧ Below w8.heap.size w8 w') (first | assumption | exact ⟨kX, kY, kA, kB, (Below.refl _ _).drew⟩) (first | (go_at_call 17; have hS9a := held_last4 (by assumption); have hs9a_ := hS9a.size; refine (toSchema_any a cap _ xs _ (by (first | assumption | exact Shs.keep (by assumption) (by ((repeat (first | (with_reducible exact Below.refl _ _) | (with_reducible assumption) | (with_reducible refine Below.alloc ?_ ?_ _) | (with_reducible refine Below.setCell ?_ ?_ _) | (with_reducible refine Below.drew ?_) | (refine Below.trans ?_ (Below.mono (by assumption) ?_)))); all_goals (first | omega | (simp; done) | (simp; omega)))) | exact Sl.keep (by assumption) (by ((repeat (first | (with_reducible exact Below.refl _ _) | (with_reducible assumption) | (with_reducible refine Below.alloc ?_ ?_ _) | (with_reducible refine Below.setCell ?_ ?_ _) | (with_reducible refine Below.drew ?_) | (refine Below.trans ?_ (Below.mono (by assumption) ?_)))); all_goals (first | omega | (simp; done) | (simp; omega)))))) rfl hn hm).mono ?_; rintro r w9a ⟨a9a, cap9a, rs9a, rfl, ho9a, hb9a⟩; have hz9a := hb9a.size; have hT9a := held_next4 (by assumption) hb9a (by omega) (by omega) (by omega) (by omega); have hs9a := ho9a.shs; clear ho9a) | (go_at_call 19; have hS9b := held_last4 (by assumption); have hs9b_ := hS9b.size; refine (eqSchema_same _ _ _ _ _ xs _ (by (first | assumption | exact Shs.keep (by assumption) (by ((repeat (first | (with_reducible exact Below.refl _ _) | (with_reducible assumption) | (with_reducible refine Below.alloc ?_ ?_ _) | (with_reducible refine Below.setCell ?_ ?_ _) | (with_reducible refine Below.drew ?_) | (refine Below.trans ?_ (Below.mono (by assumption) ?_)))); all_goals (first | omega | (simp; done) | (simp; omega)))) | exact Sl.keep (by assumption) (by ((repeat (first | (with_reducible exact Below.refl _ _) | (with_reducible assumption) | (with_reducible refine Below.alloc ?_ ?_ _) | (with_reducible refine Below.setCell ?_ ?_ _) | (with_reducible refine Below.drew ?_) | (refine Below.trans ?_ (Below.mono (by assumption) ?_)))); all_goals (first | omega | (simp; done) | (simp; omega)))))) (by (first | assumption | exact Shs.keep (by assumption) (by ((repeat (first | (with_reducible exact Below.refl _ _) | (with_reducible assumption) | (with_reducible refine Below.alloc ?_ ?_ _) | (with_reducible refine Below.setCell ?_ ?_ _) | (with_reducible refine Below.drew ?_) | (refine Below.trans ?_ (Below.mono (by assumption) ?_)))); all_goals (first | omega | (simp; done) | (simp; omega)))) | exact Sl.keep (by assumption) (by ((repeat (first | (with_reducible exact Below.refl _ _) | (with_reducible assumption) | (with_reducible refine Below.alloc ?_ ?_ _) | (with_reducible refine Below.setCell ?_ ?_ _) | (with_reducible refine Below.drew ?_) | (refine Below.trans ?_ (Below.mono (by assumption) ?_)))); all_goals (first | omega | (simp; done) | (simp; omega)))))) rfl hn hm).mono ?_; rintro r w9b ⟨rfl, hb9b⟩; have hz9b := hb9b.size; have hT9b := held_next4 (by assumption) hb9b (by omega) (by omega) (by omega) (by omega); skip))
      obtain ⟨kX_, kY_, kA_, kB_, hbT9⟩ := hT9b
      clear kX; have kX := kX_; clear kX_
      have hBX_ := Nat.lt_of_lt_of_le hBX hbT9.size; clear hBX; have hBX := hBX_; clear hBX_
      clear kY; have kY := kY_; clear kY_
      have hBY_ := Nat.lt_of_lt_of_le hBY hbT9.size; clear hBY; have hBY := hBY_; clear hBY_
      clear kA; have kA := kA_; clear kA_
      have hBA_ := Nat.lt_of_lt_of_le hBA hbT9.size; clear hBA; have hBA := hBA_; clear hBA_
      clear kB; have kB := kB_; clear kB_
      have hBB_ := Nat.lt_of_lt_of_le hBB hbT9.size; clear hBB; have hBB := hBB_; clear hBB_
      go_wp2_with fail
      go_region_held3 (fun w' => (∀ i, w'.cell? ⟨w7.heap.size, i, none⟩ = (#[.slice a7 ys.length cap7] : Array Value)[i]?) ∧ (∀ i, w'.cell? ⟨w.heap.size + 1, i, none⟩ = (#[.slice a' ys.length cap'] : Array Value)[i]?) ∧ Below w9b.heap.size w9b w') (first | assumption | exact ⟨kY, kB, (Below.refl _ _).drew⟩) (first | (go_at_call 17; have hS10a := held_last2 (by assumption); have hs10a_ := hS10a.size; refine (toSchema_any a' cap' _ ys _ (by (first | assumption | exact Shs.keep (by assumption) (by ((repeat (first | (with_reducible exact Below.refl _ _) | (with_reducible assumption) | (with_reducible refine Below.alloc ?_ ?_ _) | (with_reducible refine Below.setCell ?_ ?_ _) | (with_reducible refine Below.drew ?_) | (refine Below.trans ?_ (Below.mono (by assumption) ?_)))); all_goals (first | omega | (simp; done) | (simp; omega)))) | exact Sl.keep (by assumption) (by ((repeat (first | (with_reducible exact Below.refl _ _) | (with_reducible assumption) | (with_reducible refine Below.alloc ?_ ?_ _) | (with_reducible refine Below.setCell ?_ ?_ _) | (with_reducible refine Below.drew ?_) | (refine Below.trans ?_ (Below.mono (by assumption) ?_)))); all_goals (first | omega | (simp; done) | (simp; omega)))))) rfl hn2 hm2).mono ?_; rintro r w10a ⟨a10a, cap10a, rs10a, rfl, ho10a, hb10a⟩; have hz10a := hb10a.size; have hT10a := held_next2 (by assumption) hb10a (by omega) (by omega); have hs10a := ho10a.shs; clear ho10a) | (go_at_call 19; have hS10b := held_last2 (by assumption); have hs10b_ := hS10b.size; refine (eqSchema_same _ _ _ _ _ ys _ (by (first | assumption | exact Shs.keep (by assumption) (by ((repeat (first | (with_reducible exact Below.refl _ _) | (with_reducible assumption) | (with_reducible refine Below.alloc ?_ ?_ _) | (with_reducible refine Below.setCell ?_ ?_ _) | (with_reducible refine Below.drew ?_) | (refine Below.trans ?_ (Below.mono (by assumption) ?_)))); all_goals (first | omega | (simp; done) | (simp; omega)))) | exact Sl.keep (by assumption) (by ((repeat (first | (with_reducible exact Below.refl _ _) | (with_reducible assumption) | (with_reducible refine Below.alloc ?_ ?_ _) | (with_reducible refine Below.setCell ?_ ?_ _) | (with_reducible refine Below.drew ?_) | (refine Below.trans ?_ (Below.mono (by assumption) ?_)))); all_goals (first | omega | (simp; done) | (simp; omega)))))) (by (first | assumption | exact Shs.keep (by assumption) (by ((repeat (first | (with_reducible exact Below.refl _ _) | (with_reducible assumption) | (with_reducible refine Below.alloc ?_ ?_ _) | (with_reducible refine Below.setCell ?_ ?_ _) | (with_reducible refine Below.drew ?_) | (refine Below.trans ?_ (Below.mono (by assumption) ?_)))); all_goals (first | omega | (simp; done) | (simp; omega)))) | exact Sl.keep (by assumption) (by ((repeat (first | (with_reducible exact Below.refl _ _) | (with_reducible assumption) | (with_reducible refine Below.alloc ?_ ?_ _) | (with_reducible refine Below.setCell ?_ ?_ _) | (with_reducible refine Below.drew ?_) | (refine Below.trans ?_ (Below.mono (by assumption) ?_)))); all_goals (first | omega | (simp; done) | (simp; omega)))))) rfl hn2 hm2).mono ?_; rintro r w10b ⟨rfl, hb10b⟩; have hz10b := hb10b.size; have hT10b := held_next2 (by assumption) hb10b (by omega) (by omega); skip))
      obtain ⟨kY_, kB_, hbT10⟩ := hT10b
      clear kY; have kY := kY_; clear kY_
      have hBY_ := Nat.lt_of_lt_of_le hBY hbT10.size; clear hBY; have hBY := hBY_; clear hBY_
      clear kB; have kB := kB_; clear kB_
      have hBB_ := Nat.lt_of_lt_of_le hBB hbT10.size; clear hBB; have hBB := hBB_; clear hBB_
      go_wp2
      go_ret
      exact ⟨rfl, by ((repeat (first | (with_reducible exact Below.refl _ _) | (with_reducible assumption) | (with_reducible refine Below.alloc ?_ ?_ _) | (with_reducible refine Below.setCell ?_ ?_ _) | (with_reducible refine Below.drew ?_) | (refine Below.trans ?_ (Below.mono (by assumption) ?_)))); all_goals (first | omega | (simp; done) | (simp; omega)))⟩

set_option maxRecDepth 100000 in
theorem lifted (os : Os) (started : os.Started) (H : Type) (enc : TypeId × Value → H) :
    ReturnsInHanded {} Try.checked os 5 .any (Rows.fnExactSameSchemaSpec.pre6 enc Try.prog Try.f5 Rows.fnExactSameSchemaRow.domain false) (Rows.fnExactSameSchemaSpec.post enc Try.prog Try.f5 false true false false) := by
  refine returnsInHanded_of_change (C := Try.checked) own started (by kernel_rfl) Try.func5
    (ChangeSpec.witness6 (enc := enc) (C := Try.checked) false ⟨#[], #[.agg #[.slice none 0 0], .agg #[.slice none 0 0]], []⟩ 8 (by kernel_rfl) (by kernel_rfl) (by kernel_rfl) (by kernel_rfl)) ?_
  intro W base args ds gs before hval0 hW hcnd _
  have hval : ∀ (j : Nat) t v, Try.f5.params[j]? = some t → args[j]? = some v → Value.okWide Try.prog W .any base t v := hval0
  have hW' := hW
  obtain ⟨p, q, hA0, hV, rfl, hfz, hnd⟩ := hW
  have hA : DataW.TrodAll enc Try.prog W 0 (fun _ => true) true Try.f5.params.toList args.toList ds p := hA0
  rw [Try.params5] at hA hval
  obtain ⟨v0, vs0, d0, ds0, p0, q0, hargs, rfl, rfl, h0, r0⟩ := trodAll_cons hA
  obtain ⟨v1, vs1, d1, ds1, p1, q1, rfl, rfl, rfl, h1, r1⟩ := trodAll_cons r0
  obtain ⟨rfl, rfl, rfl⟩ := trodAll_nil r1
  obtain rfl : args = #[v0, v1] := by cases args; simp_all
  obtain ⟨rfl, rfl⟩ := trodVars_none hV
  have k0 := h0
  have lt0 : ∀ x ∈ p0, x.block < W.heap.size := by obtain ⟨m, hm⟩ := k0; exact DataW.trod_lt m _ _ _ hm
  obtain ⟨x0, e0, w0⟩ := openSchema (hval 0 24 v0 rfl rfl) h0
  subst e0
  have k1 := h1
  have lt1 : ∀ x ∈ p1, x.block < W.heap.size := by obtain ⟨m, hm⟩ := k1; exact DataW.trod_lt m _ _ _ hm
  obtain ⟨x1, e1, w1⟩ := openSchema (hval 1 24 v1 rfl rfl) h1
  subst e1
  clear hA0 hval0
  refine (walk W x0 w0 x1 w1).mono fun e W' ⟨he, bel⟩ => ?_
  subst he
  exact ⟨_, rfl, _, _, _, [], _, [], hW', trodAll_mk1 (shut_bool Try.underlying4 _), (trodAll_cons_mk (Below.trod laidOut (by kernel_rfl) (of_decide_eq_true (by kernel_rfl)) k0 bel lt0) (trodAll_cons_mk (Below.trod laidOut (by kernel_rfl) (of_decide_eq_true (by kernel_rfl)) k1 bel lt1) trodAll_mk0)), rfl, bel.frame _, fun h => by cases h⟩

theorem over : Rows.fnExactSameSchemaRow.holds Try.pinned (OpenSpec.ofChange Rows.fnExactSameSchemaSpec) :=
  OpenClaim.holds_of_wide 5 Try.f5 rfl rfl rfl rfl rfl rfl rfl ⟨rfl, rfl, rfl, rfl, rfl⟩ rfl rfl rfl rfl rfl (by kernel_rfl) Try.func5 (by kernel_rfl)
    (of_decide_eq_true (by kernel_rfl)) (by unfold Func.isWrapper; first | (rw [if_pos (by decide +kernel)]; kernel_rfl) | (rw [if_neg (by decide +kernel)]; exact ⟨rfl, rfl⟩))
    (fun os started H enc _ => lifted os started H enc)

/-- The given statement. -/
theorem proved : Rows.FnExactSameSchemaSaid := over
end Go.Proofs.Ytmmakhnlibjhcaa.fnExactSameSchema

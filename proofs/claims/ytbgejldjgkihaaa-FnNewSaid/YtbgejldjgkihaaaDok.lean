/- The small tests of which a decoder's test is made. -/
import Derived.Test.YtbgejldjgkihaaaFind
import Derived.Test.YtbgejldjgkihaaaWords
import Derived.Test.YtbgejldjgkihaaaSchOk
import Derived.Test.YtbgejldjgkihaaaDec
namespace Go.Proofs.Ytbgejldjgkihaaa
set_option linter.unusedSimpArgs false
set_option linter.unusedVariables false
open Go.ChangeShapes Go.WideShapes Go.ChangeAt Go.RowKit Go.BigFrame

/-! ### wires -/
def widthOf (w : Int) : Int := if w = 1 then 8 else if w = 5 then 4 else 0
def wireOf (k : Int) : Int := if inB k 1 8 then (if k = 4 then 5 else if k = 5 then 1 else if inB k 1 5 then 0 else 2) else -1
def wireOk (w : Int) : Bool := w == 0 || (w == 1 || (w == 2 || w == 5))
def allowed (f : Fld) (w : Int) : Bool := w == wireOf f.kind || (w == 2 && runsF f)
theorem eight {k : Int} (h : inB k 1 8 = true) : k = 1 ∨ k = 2 ∨ k = 3 ∨ k = 4 ∨ k = 5 ∨ k = 6 ∨ k = 7 ∨ k = 8 := by
  simp only [inB, decide_eq_true_eq] at h; omega
theorem ten_nat' {k : Nat} (h : k < 10) : k = 0 ∨ k = 1 ∨ k = 2 ∨ k = 3 ∨ k = 4 ∨ k = 5 ∨ k = 6 ∨ k = 7 ∨ k = 8 ∨ k = 9 := by omega
theorem widthOf_cases (w : Int) : widthOf w = 0 ∨ widthOf w = 4 ∨ widthOf w = 8 := by unfold widthOf; split <;> (try split) <;> simp
theorem specWidthOf_any (x : Int) (w : World) : Calls Try.prog 83 #[.int .i64 x] w fun r w' => r = .returned (.int .i64 (widthOf x)) ∧ w = w' := by
  go_enter Try.func83, Try.ntmps83
  go_wp2
  all_goals (go_ret; exact ⟨ret_int (by simp_all [widthOf]), rfl⟩)
theorem implWidthOf_any (x : Int) (w : World) : Calls Try.prog 125 #[.int .i64 x] w fun r w' => r = .returned (.int .i64 (widthOf x)) ∧ w = w' := by
  go_enter Try.func125, Try.ntmps125
  go_wp2
  all_goals (go_ret; exact ⟨ret_int (by simp_all [widthOf]), rfl⟩)
theorem specWireOk_any (x : Int) (w : World) : Calls Try.prog 77 #[.int .i64 x] w fun r w' => r = .returned (.bool (wireOk x)) ∧ w = w' := by
  go_enter Try.func77, Try.ntmps77
  go_wp2
  all_goals (go_ret; exact ⟨ret_bool (by simp_all [wireOk, Bool.or_assoc]), rfl⟩)
theorem implWireOk_any (x : Int) (w : World) : Calls Try.prog 69 #[.int .i64 x] w fun r w' => r = .returned (.bool (wireOk x)) ∧ w = w' := by
  go_enter Try.func69, Try.ntmps69
  go_wp2
  all_goals (go_ret; exact ⟨ret_bool (by simp_all [wireOk, Bool.or_assoc]), rfl⟩)
theorem specWireOf_any (k : Int) (w : World) : Calls Try.prog 128 #[.int .i64 k] w fun r w' => r = .returned (.int .i64 (wireOf k)) ∧ Below w.heap.size w w' := by
  cases h : inB k 1 8
  · have hw : wireOf k = -1 := by simp [wireOf, h]
    rw [hw]
    go_enter Try.func128, Try.ntmps128
    go_wp2_with (first | (go_at_call 112; refine (l6Kind_any _ _).mono ?_; rintro r w1 ⟨rfl, rfl⟩))
    go_ret
    exact ⟨rfl, by ((repeat (first | (with_reducible exact Below.refl _ _) | (with_reducible assumption) | (with_reducible refine Below.alloc ?_ ?_ _) | (with_reducible refine Below.setCell ?_ ?_ _) | (with_reducible refine Below.drew ?_) | (with_reducible refine below_setRow ?_ ?_ _) | (refine Below.trans ?_ (Below.mono (by assumption) ?_)))); all_goals (first | omega | (simp; done) | (simp; omega)))⟩
  · rcases eight h with rfl | rfl | rfl | rfl | rfl | rfl | rfl | rfl
    all_goals
      clear h
      go_enter Try.func128, Try.ntmps128
      go_wp2_with (first | (go_at_call 112; refine (l6Kind_any _ _).mono ?_; rintro r w1 ⟨rfl, rfl⟩) | (go_at_call 20; refine (specNumeric_any _ _).mono ?_; rintro r w1 ⟨rfl, rfl⟩))
      go_ret
      exact ⟨rfl, by ((repeat (first | (with_reducible exact Below.refl _ _) | (with_reducible assumption) | (with_reducible refine Below.alloc ?_ ?_ _) | (with_reducible refine Below.setCell ?_ ?_ _) | (with_reducible refine Below.drew ?_) | (with_reducible refine below_setRow ?_ ?_ _) | (refine Below.trans ?_ (Below.mono (by assumption) ?_)))); all_goals (first | omega | (simp; done) | (simp; omega)))⟩
set_option maxRecDepth 100000 in
theorem implWireOf_any (k : Int) (w : World) : Calls Try.prog 166 #[.int .i64 k] w fun r w' => r = .returned (.int .i64 (wireOf k)) ∧ Below w.heap.size w w' := by
  cases h : inB k 1 8
  · have hw : wireOf k = -1 := by simp [wireOf, h]
    rw [hw]
    go_enter Try.func166, Try.ntmps166
    go_wp2_with (first | (go_at_call 114; refine (isKind_any _ _).mono ?_; rintro r w1 ⟨rfl, rfl⟩))
    go_ret
    exact ⟨rfl, by ((repeat (first | (with_reducible exact Below.refl _ _) | (with_reducible assumption) | (with_reducible refine Below.alloc ?_ ?_ _) | (with_reducible refine Below.setCell ?_ ?_ _) | (with_reducible refine Below.drew ?_) | (with_reducible refine below_setRow ?_ ?_ _) | (refine Below.trans ?_ (Below.mono (by assumption) ?_)))); all_goals (first | omega | (simp; done) | (simp; omega)))⟩
  · rcases eight h with rfl | rfl | rfl | rfl | rfl | rfl | rfl | rfl
    all_goals
      clear h
      go_enter Try.func166, Try.ntmps166
      go_wp2_with (first | (go_at_call 114; refine (isKind_any _ _).mono ?_; rintro r w1 ⟨rfl, rfl⟩))
      go_ret
      exact ⟨rfl, by ((repeat (first | (with_reducible exact Below.refl _ _) | (with_reducible assumption) | (with_reducible refine Below.alloc ?_ ?_ _) | (with_reducible refine Below.setCell ?_ ?_ _) | (with_reducible refine Below.drew ?_) | (with_reducible refine below_setRow ?_ ?_ _) | (refine Below.trans ?_ (Below.mono (by assumption) ?_)))); all_goals (first | omega | (simp; done) | (simp; omega)))⟩
theorem specAllowed_any (f : Fld) (x : Int) (w : World) (hx : wireOk x = true) : Calls Try.prog 84 #[f.val, .int .i64 x] w fun r w' => r = .returned (.bool (allowed f x)) ∧ Below w.heap.size w w' := by
  obtain ⟨fn, fk, fr, fp, fm⟩ := f
  have hx1 : ¬ x = -1 := by rintro rfl; simp [wireOk] at hx
  clear hx
  cases hk : inB fk 1 8
  · have hw : wireOf fk = -1 := by simp [wireOf, hk]
    go_enter Try.func84, Try.ntmps84
    go_wp2_with (first
      | (go_at_call 112; refine (l6Kind_any _ _).mono ?_; rintro r w1 ⟨rfl, rfl⟩)
      | (go_at_call 85; refine (specRuns_any ⟨fn, fk, fr, fp, fm⟩ _).mono ?_; rintro r w2 ⟨rfl, hb2⟩; obtain ⟨hc2, hf2⟩ := bcell hb2; have hz2 := hb2.size; (try simp only [World.size_alloc, World.size_setCell, World.size_drew] at hz2); have hy2_0 : w.heap.size < w2.heap.size := by omega))
    all_goals
      go_ret
      exact ⟨ret_bool (by simp_all [allowed]), by ((repeat (first | (with_reducible exact Below.refl _ _) | (with_reducible assumption) | (with_reducible refine Below.alloc ?_ ?_ _) | (with_reducible refine Below.setCell ?_ ?_ _) | (with_reducible refine Below.drew ?_) | (with_reducible refine below_setRow ?_ ?_ _) | (refine Below.trans ?_ (Below.mono (by assumption) ?_)))); all_goals (first | omega | (simp; done) | (simp; omega)))⟩
  · go_enter Try.func84, Try.ntmps84
    go_wp2_with (first
      | (go_at_call 112; refine (l6Kind_any _ _).mono ?_; rintro r w1 ⟨rfl, rfl⟩)
      | (go_at_call 128; refine (specWireOf_any _ _).mono ?_; rintro r w1 ⟨rfl, hb1⟩; obtain ⟨hc1, hf1⟩ := bcell hb1; have hz1 := hb1.size; (try simp only [World.size_alloc, World.size_setCell, World.size_drew] at hz1); have hy1_0 : w.heap.size < w1.heap.size := by omega)
      | (go_at_call 85; refine (specRuns_any ⟨fn, fk, fr, fp, fm⟩ _).mono ?_; rintro r w2 ⟨rfl, hb2⟩; obtain ⟨hc2, hf2⟩ := bcell hb2; have hz2 := hb2.size; (try simp only [World.size_alloc, World.size_setCell, World.size_drew] at hz2); have hy2_0 : w.heap.size < w2.heap.size := by omega))
    all_goals
      go_ret
      exact ⟨ret_bool (by simp_all [allowed]), by ((repeat (first | (with_reducible exact Below.refl _ _) | (with_reducible assumption) | (with_reducible refine Below.alloc ?_ ?_ _) | (with_reducible refine Below.setCell ?_ ?_ _) | (with_reducible refine Below.drew ?_) | (with_reducible refine below_setRow ?_ ?_ _) | (refine Below.trans ?_ (Below.mono (by assumption) ?_)))); all_goals (first | omega | (simp; done) | (simp; omega)))⟩
theorem implAllowed_any (f : Fld) (x : Int) (w : World) (hx : wireOk x = true) : Calls Try.prog 124 #[f.val, .int .i64 x] w fun r w' => r = .returned (.bool (allowed f x)) ∧ Below w.heap.size w w' := by
  obtain ⟨fn, fk, fr, fp, fm⟩ := f
  clear hx
  go_enter Try.func124, Try.ntmps124
  go_wp2_with (first
    | (go_at_call 166; refine (implWireOf_any _ _).mono ?_; rintro r w1 ⟨rfl, hb1⟩; obtain ⟨hc1, hf1⟩ := bcell hb1; have hz1 := hb1.size; (try simp only [World.size_alloc, World.size_setCell, World.size_drew] at hz1); have hy1_0 : w.heap.size < w1.heap.size := by omega)
    | (go_at_call 19; refine (implRuns_any ⟨fn, fk, fr, fp, fm⟩ _).mono ?_; rintro r w2 ⟨rfl, hb2⟩; obtain ⟨hc2, hf2⟩ := bcell hb2; have hz2 := hb2.size; (try simp only [World.size_alloc, World.size_setCell, World.size_drew] at hz2); have hy2_0 : w.heap.size < w2.heap.size := by omega))
  all_goals
    go_ret
    exact ⟨ret_bool (by simp_all [allowed]), by ((repeat (first | (with_reducible exact Below.refl _ _) | (with_reducible assumption) | (with_reducible refine Below.alloc ?_ ?_ _) | (with_reducible refine Below.setCell ?_ ?_ _) | (with_reducible refine Below.drew ?_) | (with_reducible refine below_setRow ?_ ?_ _) | (refine Below.trans ?_ (Below.mono (by assumption) ?_)))); all_goals (first | omega | (simp; done) | (simp; omega)))⟩
/-! ### the state of a text -/
def sameU (u v : Ut) : Bool := decide (u = v)
theorem run_eql_ut (a b c a' b' c' : Int) (w : World) :
    (binOp .eql 62 (.agg #[.int .i64 a, .int .i64 b, .int .i64 c]) (.agg #[.int .i64 a', .int .i64 b', .int .i64 c'])).run Try.prog w = .ok (.bool (sameU ⟨a, b, c⟩ ⟨a', b', c'⟩)) w := by
  simp [go_sem, sameU]
  by_cases h1 : a = a' <;> by_cases h2 : b = b' <;> by_cases h3 : c = c' <;> simp [h1, h2, h3]
def utfOk (u : Ut) : Bool := sameU u ⟨0, 0, 0⟩ || (sameU u ⟨1, 128, 191⟩ || (sameU u ⟨2, 128, 191⟩ || (sameU u ⟨3, 128, 191⟩ || (sameU u ⟨2, 160, 191⟩ || (sameU u ⟨2, 128, 159⟩ || (sameU u ⟨3, 144, 191⟩ || sameU u ⟨3, 128, 143⟩))))))
set_option maxHeartbeats 2000000 in
theorem specUtfOk_any (u : Ut) (w : World) : Calls Try.prog 76 #[u.val] w fun r w' => r = .returned (.bool (utfOk u)) ∧ Below w.heap.size w w' := by
  obtain ⟨a, b, c⟩ := u
  have hne := run_eql_ut
  go_enter Try.func76, Try.ntmps76
  go_wp2_with (first | (go_at_call 56; refine (l1In_any _ _ _ _).mono ?_; rintro r w1 ⟨rfl, rfl⟩))
  all_goals (go_ret; refine ⟨ret_bool ?_, by ((repeat (first | (with_reducible exact Below.refl _ _) | (with_reducible assumption) | (with_reducible refine Below.alloc ?_ ?_ _) | (with_reducible refine Below.setCell ?_ ?_ _) | (with_reducible refine Below.drew ?_) | (with_reducible refine below_setRow ?_ ?_ _) | (refine Below.trans ?_ (Below.mono (by assumption) ?_)))); all_goals (first | omega | (simp; done) | (simp; omega)))⟩; first | (simp_all [utfOk, sameU, inB]; done) | (simp_all [utfOk, sameU, inB]; rw [Bool.eq_iff_iff]; simp; try omega))
set_option maxHeartbeats 2000000 in
theorem implUtfOk_any (u : Ut) (w : World) : Calls Try.prog 68 #[u.val] w fun r w' => r = .returned (.bool (utfOk u)) ∧ Below w.heap.size w w' := by
  obtain ⟨a, b, c⟩ := u
  have hne := run_eql_ut
  go_enter Try.func68, Try.ntmps68
  go_wp2
  all_goals (go_ret; refine ⟨ret_bool ?_, by ((repeat (first | (with_reducible exact Below.refl _ _) | (with_reducible assumption) | (with_reducible refine Below.alloc ?_ ?_ _) | (with_reducible refine Below.setCell ?_ ?_ _) | (with_reducible refine Below.drew ?_) | (with_reducible refine below_setRow ?_ ?_ _) | (refine Below.trans ?_ (Below.mono (by assumption) ?_)))); all_goals (first | omega | (simp; done) | (simp; omega)))⟩; simp_all [utfOk])
/-! ### the state of a number -/
def scanOk (b h : Int) : Bool := inB h 0 9 && decide (b / 2 ^ (7 * h.toNat) = 0)
theorem specScanOk_any (b h : Int) (w : World) : Calls Try.prog 130 #[.agg #[.int .u64 b, .int .i64 h]] w fun r w' => r = .returned (.bool (scanOk b h)) ∧ Below w.heap.size w w' := by
  cases hh : inB h 0 9
  · go_enter Try.func130, Try.ntmps130
    go_wp2_with (first | (go_at_call 56; refine (l1In_any _ _ _ _).mono ?_; rintro r w1 ⟨rfl, rfl⟩))
    go_ret
    exact ⟨ret_bool (by simp [scanOk, hh]), by ((repeat (first | (with_reducible exact Below.refl _ _) | (with_reducible assumption) | (with_reducible refine Below.alloc ?_ ?_ _) | (with_reducible refine Below.setCell ?_ ?_ _) | (with_reducible refine Below.drew ?_) | (with_reducible refine below_setRow ?_ ?_ _) | (refine Below.trans ?_ (Below.mono (by assumption) ?_)))); all_goals (first | omega | (simp; done) | (simp; omega)))⟩
  · obtain ⟨k, rfl⟩ := Int.eq_ofNat_of_zero_le (show 0 ≤ h by simp only [inB, decide_eq_true_eq] at hh; omega)
    have hk : k < 10 := by simp only [inB, decide_eq_true_eq] at hh; omega
    rcases ten_nat' hk with rfl | rfl | rfl | rfl | rfl | rfl | rfl | rfl | rfl | rfl
    all_goals
      clear hk hh
      go_enter Try.func130, Try.ntmps130
      go_wp2_with (first | (go_at_call 56; refine (l1In_any _ _ _ _).mono ?_; rintro r w1 ⟨rfl, rfl⟩))
      go_ret
      exact ⟨ret_bool (by simp [scanOk, inB]; try (rw [Bool.eq_iff_iff]; simp)), by ((repeat (first | (with_reducible exact Below.refl _ _) | (with_reducible assumption) | (with_reducible refine Below.alloc ?_ ?_ _) | (with_reducible refine Below.setCell ?_ ?_ _) | (with_reducible refine Below.drew ?_) | (with_reducible refine below_setRow ?_ ?_ _) | (refine Below.trans ?_ (Below.mono (by assumption) ?_)))); all_goals (first | omega | (simp; done) | (simp; omega)))⟩
theorem implScanOk_any (b h : Int) (w : World) : Calls Try.prog 127 #[.agg #[.int .u64 b, .int .i64 h]] w fun r w' => r = .returned (.bool (scanOk b h)) ∧ Below w.heap.size w w' := by
  cases hh : inB h 0 9
  · go_enter Try.func127, Try.ntmps127
    go_wp2_with (first | (go_at_call 60; refine (within_any _ _ _ _).mono ?_; rintro r w1 ⟨rfl, rfl⟩))
    go_ret
    exact ⟨ret_bool (by simp [scanOk, hh]), by ((repeat (first | (with_reducible exact Below.refl _ _) | (with_reducible assumption) | (with_reducible refine Below.alloc ?_ ?_ _) | (with_reducible refine Below.setCell ?_ ?_ _) | (with_reducible refine Below.drew ?_) | (with_reducible refine below_setRow ?_ ?_ _) | (refine Below.trans ?_ (Below.mono (by assumption) ?_)))); all_goals (first | omega | (simp; done) | (simp; omega)))⟩
  · obtain ⟨k, rfl⟩ := Int.eq_ofNat_of_zero_le (show 0 ≤ h by simp only [inB, decide_eq_true_eq] at hh; omega)
    have hk : k < 10 := by simp only [inB, decide_eq_true_eq] at hh; omega
    rcases ten_nat' hk with rfl | rfl | rfl | rfl | rfl | rfl | rfl | rfl | rfl | rfl
    all_goals
      clear hk hh
      go_enter Try.func127, Try.ntmps127
      go_wp2_with (first | (go_at_call 60; refine (within_any _ _ _ _).mono ?_; rintro r w1 ⟨rfl, rfl⟩))
      go_ret
      exact ⟨ret_bool (by simp [scanOk, inB]; try (rw [Bool.eq_iff_iff]; simp)), by ((repeat (first | (with_reducible exact Below.refl _ _) | (with_reducible assumption) | (with_reducible refine Below.alloc ?_ ?_ _) | (with_reducible refine Below.setCell ?_ ?_ _) | (with_reducible refine Below.drew ?_) | (with_reducible refine below_setRow ?_ ?_ _) | (refine Below.trans ?_ (Below.mono (by assumption) ?_)))); all_goals (first | omega | (simp; done) | (simp; omega)))⟩
end Go.Proofs.Ytbgejldjgkihaaa

/- Plans: what the laws' own functions do with them; which are valid. -/
import Derived.Test.YtigmdaiecdoimaaSchOk
namespace Go.Proofs.Ytigmdaiecdoimaa
set_option linter.unusedSimpArgs false
set_option linter.unusedVariables false
open Go.ChangeShapes Go.WideShapes Go.ChangeAt Go.RowKit Go.BigFrame

/-- A plan without its shapes. -/
structure Pl where
  root : Int
  deep : Int
  most : Int
  deriving DecidableEq
@[reducible] def Pl.val (p : Pl) (sh : Value) : Value := .agg #[sh, .int .i64 p.root, .int .i64 p.deep, .int .i64 p.most]
def planOk (p : Pl) (xs : List Shp) : Bool := schOk xs && (inB p.root 0 (xs.length - 1) && (inB p.deep 1 8 && inB p.most 0 2000))
set_option maxHeartbeats 1000000 in
theorem szPlan_any (a : Option Addr) (cap n : Nat) (p : Pl) (xs : List Shp) (left : Int) (w : World) (h : Shs w a xs) (hok : ∀ e ∈ xs, ShpOk e) (hx : xs.length = n) (hn : n ≤ maxLen) (h0 : 0 ≤ left) (h1 : left ≤ 1048576) :
    Calls Try.prog 95 #[p.val (.slice a n cap), .int .i64 left] w fun r w' => r = .returned (.int .i64 (szS left xs)) ∧ Below w.heap.size w w' := by
  have HX := Lib.hid hx; clear hx
  have HSs := Lib.hid h; clear h
  by_cases hl : left < (xs.length : Int) + fldSum xs
  · have hq : szS left xs = -1 := if_pos hl
    go_enter Try.func95, Try.ntmps95
    go_wp2_with (first | (go_at_call 22; refine (szSchema_any _ _ _ xs _ _ (HSs.out.keep (by ((repeat (first | (with_reducible exact Below.refl _ _) | (with_reducible assumption) | (with_reducible refine Below.alloc ?_ ?_ _) | (with_reducible refine Below.setCell ?_ ?_ _) | (with_reducible refine Below.drew ?_) | (with_reducible refine below_setRow ?_ ?_ _) | (refine Below.trans ?_ (Below.mono (by assumption) ?_)))); all_goals (first | omega | (simp; done) | (simp; omega))))) hok HX.out hn h0 h1).mono ?_; rintro r w1 ⟨rfl, hb1⟩; obtain ⟨hc1, hf1⟩ := bcell hb1; have hz1 := hb1.size; (try simp only [World.size_alloc, World.size_setCell, World.size_drew] at hz1)))
    go_ret
    exact ⟨ret_int hq.symm, by ((repeat (first | (with_reducible exact Below.refl _ _) | (with_reducible assumption) | (with_reducible refine Below.alloc ?_ ?_ _) | (with_reducible refine Below.setCell ?_ ?_ _) | (with_reducible refine Below.drew ?_) | (with_reducible refine below_setRow ?_ ?_ _) | (refine Below.trans ?_ (Below.mono (by assumption) ?_)))); all_goals (first | omega | (simp; done) | (simp; omega)))⟩
  · have hq2 : 0 ≤ szS left xs := by simp only [szS]; rw [if_neg hl]; omega
    go_enter Try.func95, Try.ntmps95
    go_wp2_with (first | (go_at_call 22; refine (szSchema_any _ _ _ xs _ _ (HSs.out.keep (by ((repeat (first | (with_reducible exact Below.refl _ _) | (with_reducible assumption) | (with_reducible refine Below.alloc ?_ ?_ _) | (with_reducible refine Below.setCell ?_ ?_ _) | (with_reducible refine Below.drew ?_) | (with_reducible refine below_setRow ?_ ?_ _) | (refine Below.trans ?_ (Below.mono (by assumption) ?_)))); all_goals (first | omega | (simp; done) | (simp; omega))))) hok HX.out hn h0 h1).mono ?_; rintro r w1 ⟨rfl, hb1⟩; obtain ⟨hc1, hf1⟩ := bcell hb1; have hz1 := hb1.size; (try simp only [World.size_alloc, World.size_setCell, World.size_drew] at hz1)))
    go_ret
    exact ⟨rfl, by ((repeat (first | (with_reducible exact Below.refl _ _) | (with_reducible assumption) | (with_reducible refine Below.alloc ?_ ?_ _) | (with_reducible refine Below.setCell ?_ ?_ _) | (with_reducible refine Below.drew ?_) | (with_reducible refine below_setRow ?_ ?_ _) | (refine Below.trans ?_ (Below.mono (by assumption) ?_)))); all_goals (first | omega | (simp; done) | (simp; omega)))⟩
def FreshPlan (w : World) (T TF : TypeId) (n : Nat) (p : Pl) (xs : List Shp) (r : Ending) (w' : World) : Prop :=
  ∃ a cap rs, r = .returned (p.val (.slice a n cap)) ∧ OwnShs w' w.heap.size T TF (.slice a n cap) n rs xs ∧ Below w.heap.size w w'
set_option maxHeartbeats 2000000 in
theorem toPlan_any (a : Option Addr) (cap n : Nat) (p : Pl) (xs : List Shp) (w : World) (h : Shs w a xs) (hx : xs.length = n) (hn : n ≤ 1048576) (hm : fldSum xs ≤ 1048576) :
    Calls Try.prog 101 #[p.val (.slice a n cap)] w (FreshPlan w 38 40 n p xs) := by
  have HX := Lib.hid hx; clear hx
  have HSs := Lib.hid h; clear h
  go_enter Try.func101, Try.ntmps101
  go_wp2_with fail
  refine (toSchema_any _ _ _ xs _ (HSs.out.keep (by ((repeat (first | (with_reducible exact Below.refl _ _) | (with_reducible assumption) | (with_reducible refine Below.alloc ?_ ?_ _) | (with_reducible refine Below.setCell ?_ ?_ _) | (with_reducible refine Below.drew ?_) | (with_reducible refine below_setRow ?_ ?_ _) | (refine Below.trans ?_ (Below.mono (by assumption) ?_)))); all_goals (first | omega | (simp; done) | (simp; omega))))) HX.out hn hm).mono ?_
  rintro r w1 ⟨a1, cap1, rs1, rfl, ho1, hb1⟩
  obtain ⟨hc1, hf1⟩ := bcell hb1
  have hz1 := hb1.size
  simp only [World.size_alloc, World.size_setCell] at hz1
  have HO := Lib.hid ho1
  clear ho1
  go_wp2
  refine bodyPost_ret (v := p.val (.slice a1 n cap1)) (by simp [results, Try.results101, go_sem, hc1]) rfl ⟨a1, cap1, rs1, rfl, ?_, by ((repeat (first | (with_reducible exact Below.refl _ _) | (with_reducible assumption) | (with_reducible refine Below.alloc ?_ ?_ _) | (with_reducible refine Below.setCell ?_ ?_ _) | (with_reducible refine Below.drew ?_) | (with_reducible refine below_setRow ?_ ?_ _) | (refine Below.trans ?_ (Below.mono (by assumption) ?_)))); all_goals (first | omega | (simp; done) | (simp; omega)))⟩
  ((first | refine owns_le (base := ?_) ?_ ?_ | refine OwnShs.le (base := ?_) ?_ ?_); rotate_left; (repeat (first | (refine owns_set ?_ ?_ _) | (refine OwnShs.set ?_ ?_ _) | exact HO.out)); all_goals (first | omega | (simp; done) | (simp; omega)))
set_option maxHeartbeats 2000000 in
/-- Two readings of one plan are equal. -/
theorem eqPlan_same (a a' : Option Addr) (cap cap' n : Nat) (p : Pl) (xs : List Shp) (w : World) (h : Shs w a xs) (h' : Shs w a' xs) (hx : xs.length = n) (hn : n ≤ 1048576) (hm : fldSum xs ≤ 1048576) :
    Calls Try.prog 109 #[p.val (.slice a n cap), p.val (.slice a' n cap')] w fun r w' => r = .returned (.bool true) ∧ Below w.heap.size w w' := by
  have HX := Lib.hid hx; clear hx
  have HS1 := Lib.hid h; clear h
  have HS2 := Lib.hid h'; clear h'
  go_enter Try.func109, Try.ntmps109
  go_wp2_with fail
  refine (eqSchema_same _ _ _ _ _ xs _ (HS1.out.keep (by ((repeat (first | (with_reducible exact Below.refl _ _) | (with_reducible assumption) | (with_reducible refine Below.alloc ?_ ?_ _) | (with_reducible refine Below.setCell ?_ ?_ _) | (with_reducible refine Below.drew ?_) | (with_reducible refine below_setRow ?_ ?_ _) | (refine Below.trans ?_ (Below.mono (by assumption) ?_)))); all_goals (first | omega | (simp; done) | (simp; omega))))) (HS2.out.keep (by ((repeat (first | (with_reducible exact Below.refl _ _) | (with_reducible assumption) | (with_reducible refine Below.alloc ?_ ?_ _) | (with_reducible refine Below.setCell ?_ ?_ _) | (with_reducible refine Below.drew ?_) | (with_reducible refine below_setRow ?_ ?_ _) | (refine Below.trans ?_ (Below.mono (by assumption) ?_)))); all_goals (first | omega | (simp; done) | (simp; omega))))) HX.out hn hm).mono ?_
  rintro r w1 ⟨rfl, hb1⟩
  obtain ⟨hc1, hf1⟩ := bcell hb1
  have hz1 := hb1.size
  simp only [World.size_alloc, World.size_setCell] at hz1
  go_wp2
  go_ret
  exact ⟨rfl, by ((repeat (first | (with_reducible exact Below.refl _ _) | (with_reducible assumption) | (with_reducible refine Below.alloc ?_ ?_ _) | (with_reducible refine Below.setCell ?_ ?_ _) | (with_reducible refine Below.drew ?_) | (with_reducible refine below_setRow ?_ ?_ _) | (refine Below.trans ?_ (Below.mono (by assumption) ?_)))); all_goals (first | omega | (simp; done) | (simp; omega)))⟩
end Go.Proofs.Ytigmdaiecdoimaa

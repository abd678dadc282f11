/- Two readings of one decoder are equal. (Printed by wip/tools/decgen.py eqdec.) -/
import Derived.Test.YtigmdaiecdoimaaGreatDecW
namespace Go.Proofs.YtigmdaiecdoimaaGreat
set_option linter.unusedSimpArgs false
set_option linter.unusedVariables false
open Go.ChangeShapes Go.WideShapes Go.ChangeAt Go.RowKit Go.BigFrame

set_option maxRecDepth 100000 in
set_option maxHeartbeats 1000000 in
/-- Two readings of one decoder are equal. -/
theorem eqDec_same (d : Dc) (a b : Option Addr) (cap cap' n : Nat) (xs : List Shp) (sa sb : Option Addr) (scap scap' m : Nat) (ls : List Lvl) (w : World) (h1 : Shs w a xs) (h2 : Shs w b xs) (h3 : Lvls w sa ls) (h4 : Lvls w sb ls) (hx : xs.length = n) (hl : ls.length = m) (hn : n ≤ 1048576) (hm : fldSum xs ≤ 1048576) (hm' : m ≤ 1048576) :
    Calls Tryz.prog 10 #[d.val (.slice a n cap) (.slice sa m scap), d.val (.slice b n cap') (.slice sb m scap')] w fun r w' => r = .returned (.bool true) ∧ Below w.heap.size w w' := by
  have HX := Lib.hid hx; clear hx
  have HL := Lib.hid hl; clear hl
  have HS1 := Lib.hid h1; clear h1
  have HS2 := Lib.hid h2; clear h2
  have HS3 := Lib.hid h3; clear h3
  have HS4 := Lib.hid h4; clear h4
  go_enter Tryz.func10, Tryz.ntmps10
  go_wp2_with fail
  refine (eqPlan_same _ _ _ _ _ d.p xs _ (HS1.out.keep (by ((repeat (first | (with_reducible exact Below.refl _ _) | (with_reducible assumption) | (with_reducible refine Below.alloc ?_ ?_ _) | (with_reducible refine Below.setCell ?_ ?_ _) | (with_reducible refine Below.drew ?_) | (with_reducible refine below_setRow ?_ ?_ _) | (refine Below.trans ?_ (Below.mono (by assumption) ?_)))); all_goals (first | omega | (simp; done) | (simp; omega))))) (HS2.out.keep (by ((repeat (first | (with_reducible exact Below.refl _ _) | (with_reducible assumption) | (with_reducible refine Below.alloc ?_ ?_ _) | (with_reducible refine Below.setCell ?_ ?_ _) | (with_reducible refine Below.drew ?_) | (with_reducible refine below_setRow ?_ ?_ _) | (refine Below.trans ?_ (Below.mono (by assumption) ?_)))); all_goals (first | omega | (simp; done) | (simp; omega))))) HX.out hn hm).mono ?_
  rintro r w1 ⟨rfl, hb1⟩

  have hz1 := hb1.size
  try simp only [World.size_alloc, World.size_setCell, World.size_drew] at hz1
  have hA_ : w1.heap[w.heap.size]? = some (.cells #[.slice a n cap, .int .i64 d.p.root, .int .i64 d.p.deep, .int .i64 d.p.most, .int .i64 d.mode, .slice sa m scap, .int .u64 d.bits, .int .i64 d.have_, .int .i64 d.start, .int .i64 d.at_, .int .i64 d.field.number, .int .i64 d.field.kind, .bool d.field.rep, .bool d.field.packed, .int .i64 d.field.msg, .int .i64 d.wire, .int .i64 d.want, .int .i64 d.utf.want, .int .i64 d.utf.low, .int .i64 d.utf.high, .int .i64 d.end_.kind, .int .i64 d.end_.field, .int .u64 d.end_.bits, .int .i64 d.end_.len, .string d.end_.text, .int .i64 d.end_.code, .int .i64 d.end_.at_] 51 (0, 0)) := (hb1.block _ (by first | omega | (simp; done) | (simp; omega))).trans (hset_alloc (hset_new (by simp)))
  have hB_ : w1.heap[w.heap.size + 1]? = some (.cells #[.slice b n cap', .int .i64 d.p.root, .int .i64 d.p.deep, .int .i64 d.p.most, .int .i64 d.mode, .slice sb m scap', .int .u64 d.bits, .int .i64 d.have_, .int .i64 d.start, .int .i64 d.at_, .int .i64 d.field.number, .int .i64 d.field.kind, .bool d.field.rep, .bool d.field.packed, .int .i64 d.field.msg, .int .i64 d.wire, .int .i64 d.want, .int .i64 d.utf.want, .int .i64 d.utf.low, .int .i64 d.utf.high, .int .i64 d.end_.kind, .int .i64 d.end_.field, .int .u64 d.end_.bits, .int .i64 d.end_.len, .string d.end_.text, .int .i64 d.end_.code, .int .i64 d.end_.at_] 51 (0, 0)) := (hb1.block _ (by first | omega | (simp; done) | (simp; omega))).trans (hset_new (by simp))
  have hb1b : Below w.heap.size w w1 := by ((repeat (first | (with_reducible exact Below.refl _ _) | (with_reducible assumption) | (with_reducible refine Below.alloc ?_ ?_ _) | (with_reducible refine Below.setCell ?_ ?_ _) | (with_reducible refine Below.drew ?_) | (with_reducible refine below_setRow ?_ ?_ _) | (refine Below.trans ?_ (Below.mono (by assumption) ?_)))); all_goals (first | omega | (simp; done) | (simp; omega)))
  have kA := box_cells hA_; have fA := box_frozen hA_; have hBA := box_lt hA_; have HA := Lib.hid hA_; clear hA_
  have kB := box_cells hB_; have fB := box_frozen hB_; have hBB := box_lt hB_; have HB := Lib.hid hB_; clear hB_
  clear hb1; have hb1 := hb1b; clear hb1b
  go_wp2_with fail
  refine (eqLevelS_any _ _ _ _ _ _ ls ls _ (Sl.keep HS3.out (by ((repeat (first | (with_reducible exact Below.refl _ _) | (with_reducible assumption) | (with_reducible refine Below.alloc ?_ ?_ _) | (with_reducible refine Below.setCell ?_ ?_ _) | (with_reducible refine Below.drew ?_) | (with_reducible refine below_setRow ?_ ?_ _) | (refine Below.trans ?_ (Below.mono (by assumption) ?_)))); all_goals (first | omega | (simp; done) | (simp; omega))))) (Sl.keep HS4.out (by ((repeat (first | (with_reducible exact Below.refl _ _) | (with_reducible assumption) | (with_reducible refine Below.alloc ?_ ?_ _) | (with_reducible refine Below.setCell ?_ ?_ _) | (with_reducible refine Below.drew ?_) | (with_reducible refine below_setRow ?_ ?_ _) | (refine Below.trans ?_ (Below.mono (by assumption) ?_)))); all_goals (first | omega | (simp; done) | (simp; omega))))) HL.out HL.out hm' hm').mono ?_
  rintro r w2 ⟨rfl, hb2⟩

  have hz2 := hb2.size
  try simp only [World.size_alloc, World.size_setCell, World.size_drew] at hz2
  have hA_ : w2.heap[w.heap.size]? = some (.cells #[.slice a n cap, .int .i64 d.p.root, .int .i64 d.p.deep, .int .i64 d.p.most, .int .i64 d.mode, .slice sa m scap, .int .u64 d.bits, .int .i64 d.have_, .int .i64 d.start, .int .i64 d.at_, .int .i64 d.field.number, .int .i64 d.field.kind, .bool d.field.rep, .bool d.field.packed, .int .i64 d.field.msg, .int .i64 d.wire, .int .i64 d.want, .int .i64 d.utf.want, .int .i64 d.utf.low, .int .i64 d.utf.high, .int .i64 d.end_.kind, .int .i64 d.end_.field, .int .u64 d.end_.bits, .int .i64 d.end_.len, .string d.end_.text, .int .i64 d.end_.code, .int .i64 d.end_.at_] 51 (0, 0)) := (hb2.block _ (by first | omega | (simp; done) | (simp; omega))).trans (by (repeat (first | (with_reducible exact HA.out) | (with_reducible refine hset_other ?_ (by simp; try omega)))))
  have hB_ : w2.heap[w.heap.size + 1]? = some (.cells #[.slice b n cap', .int .i64 d.p.root, .int .i64 d.p.deep, .int .i64 d.p.most, .int .i64 d.mode, .slice sb m scap', .int .u64 d.bits, .int .i64 d.have_, .int .i64 d.start, .int .i64 d.at_, .int .i64 d.field.number, .int .i64 d.field.kind, .bool d.field.rep, .bool d.field.packed, .int .i64 d.field.msg, .int .i64 d.wire, .int .i64 d.want, .int .i64 d.utf.want, .int .i64 d.utf.low, .int .i64 d.utf.high, .int .i64 d.end_.kind, .int .i64 d.end_.field, .int .u64 d.end_.bits, .int .i64 d.end_.len, .string d.end_.text, .int .i64 d.end_.code, .int .i64 d.end_.at_] 51 (0, 0)) := (hb2.block _ (by first | omega | (simp; done) | (simp; omega))).trans (by (repeat (first | (with_reducible exact HB.out) | (with_reducible refine hset_other ?_ (by simp; try omega)))))
  have hb2b : Below w1.heap.size w1 w2 := by ((repeat (first | (with_reducible exact Below.refl _ _) | (with_reducible assumption) | (with_reducible refine Below.alloc ?_ ?_ _) | (with_reducible refine Below.setCell ?_ ?_ _) | (with_reducible refine Below.drew ?_) | (with_reducible refine below_setRow ?_ ?_ _) | (refine Below.trans ?_ (Below.mono (by assumption) ?_)))); all_goals (first | omega | (simp; done) | (simp; omega)))
  clear HA kA fA hBA
  have kA := box_cells hA_; have fA := box_frozen hA_; have hBA := box_lt hA_; have HA := Lib.hid hA_; clear hA_
  clear HB kB fB hBB
  have kB := box_cells hB_; have fB := box_frozen hB_; have hBB := box_lt hB_; have HB := Lib.hid hB_; clear hB_
  clear hb2; have hb2 := hb2b; clear hb2b
  go_wp2_with fail
  refine (eqScan_same d.bits d.have_ _).mono ?_
  rintro r w3 ⟨rfl, hb3⟩

  have hz3 := hb3.size
  try simp only [World.size_alloc, World.size_setCell, World.size_drew] at hz3
  have hA_ : w3.heap[w.heap.size]? = some (.cells #[.slice a n cap, .int .i64 d.p.root, .int .i64 d.p.deep, .int .i64 d.p.most, .int .i64 d.mode, .slice sa m scap, .int .u64 d.bits, .int .i64 d.have_, .int .i64 d.start, .int .i64 d.at_, .int .i64 d.field.number, .int .i64 d.field.kind, .bool d.field.rep, .bool d.field.packed, .int .i64 d.field.msg, .int .i64 d.wire, .int .i64 d.want, .int .i64 d.utf.want, .int .i64 d.utf.low, .int .i64 d.utf.high, .int .i64 d.end_.kind, .int .i64 d.end_.field, .int .u64 d.end_.bits, .int .i64 d.end_.len, .string d.end_.text, .int .i64 d.end_.code, .int .i64 d.end_.at_] 51 (0, 0)) := (hb3.block _ (by first | omega | (simp; done) | (simp; omega))).trans (by (repeat (first | (with_reducible exact HA.out) | (with_reducible refine hset_other ?_ (by simp; try omega)))))
  have hB_ : w3.heap[w.heap.size + 1]? = some (.cells #[.slice b n cap', .int .i64 d.p.root, .int .i64 d.p.deep, .int .i64 d.p.most, .int .i64 d.mode, .slice sb m scap', .int .u64 d.bits, .int .i64 d.have_, .int .i64 d.start, .int .i64 d.at_, .int .i64 d.field.number, .int .i64 d.field.kind, .bool d.field.rep, .bool d.field.packed, .int .i64 d.field.msg, .int .i64 d.wire, .int .i64 d.want, .int .i64 d.utf.want, .int .i64 d.utf.low, .int .i64 d.utf.high, .int .i64 d.end_.kind, .int .i64 d.end_.field, .int .u64 d.end_.bits, .int .i64 d.end_.len, .string d.end_.text, .int .i64 d.end_.code, .int .i64 d.end_.at_] 51 (0, 0)) := (hb3.block _ (by first | omega | (simp; done) | (simp; omega))).trans (by (repeat (first | (with_reducible exact HB.out) | (with_reducible refine hset_other ?_ (by simp; try omega)))))
  have hb3b : Below w2.heap.size w2 w3 := by ((repeat (first | (with_reducible exact Below.refl _ _) | (with_reducible assumption) | (with_reducible refine Below.alloc ?_ ?_ _) | (with_reducible refine Below.setCell ?_ ?_ _) | (with_reducible refine Below.drew ?_) | (with_reducible refine below_setRow ?_ ?_ _) | (refine Below.trans ?_ (Below.mono (by assumption) ?_)))); all_goals (first | omega | (simp; done) | (simp; omega)))
  clear HA kA fA hBA
  have kA := box_cells hA_; have fA := box_frozen hA_; have hBA := box_lt hA_; have HA := Lib.hid hA_; clear hA_
  clear HB kB fB hBB
  have kB := box_cells hB_; have fB := box_frozen hB_; have hBB := box_lt hB_; have HB := Lib.hid hB_; clear hB_
  clear hb3; have hb3 := hb3b; clear hb3b
  go_wp2_with fail
  refine (eqField_same d.field _).mono ?_
  rintro r w4 ⟨rfl, hb4⟩

  have hz4 := hb4.size
  try simp only [World.size_alloc, World.size_setCell, World.size_drew] at hz4
  have hA_ : w4.heap[w.heap.size]? = some (.cells #[.slice a n cap, .int .i64 d.p.root, .int .i64 d.p.deep, .int .i64 d.p.most, .int .i64 d.mode, .slice sa m scap, .int .u64 d.bits, .int .i64 d.have_, .int .i64 d.start, .int .i64 d.at_, .int .i64 d.field.number, .int .i64 d.field.kind, .bool d.field.rep, .bool d.field.packed, .int .i64 d.field.msg, .int .i64 d.wire, .int .i64 d.want, .int .i64 d.utf.want, .int .i64 d.utf.low, .int .i64 d.utf.high, .int .i64 d.end_.kind, .int .i64 d.end_.field, .int .u64 d.end_.bits, .int .i64 d.end_.len, .string d.end_.text, .int .i64 d.end_.code, .int .i64 d.end_.at_] 51 (0, 0)) := (hb4.block _ (by first | omega | (simp; done) | (simp; omega))).trans (by (repeat (first | (with_reducible exact HA.out) | (with_reducible refine hset_other ?_ (by simp; try omega)))))
  have hB_ : w4.heap[w.heap.size + 1]? = some (.cells #[.slice b n cap', .int .i64 d.p.root, .int .i64 d.p.deep, .int .i64 d.p.most, .int .i64 d.mode, .slice sb m scap', .int .u64 d.bits, .int .i64 d.have_, .int .i64 d.start, .int .i64 d.at_, .int .i64 d.field.number, .int .i64 d.field.kind, .bool d.field.rep, .bool d.field.packed, .int .i64 d.field.msg, .int .i64 d.wire, .int .i64 d.want, .int .i64 d.utf.want, .int .i64 d.utf.low, .int .i64 d.utf.high, .int .i64 d.end_.kind, .int .i64 d.end_.field, .int .u64 d.end_.bits, .int .i64 d.end_.len, .string d.end_.text, .int .i64 d.end_.code, .int .i64 d.end_.at_] 51 (0, 0)) := (hb4.block _ (by first | omega | (simp; done) | (simp; omega))).trans (by (repeat (first | (with_reducible exact HB.out) | (with_reducible refine hset_other ?_ (by simp; try omega)))))
  have hb4b : Below w3.heap.size w3 w4 := by ((repeat (first | (with_reducible exact Below.refl _ _) | (with_reducible assumption) | (with_reducible refine Below.alloc ?_ ?_ _) | (with_reducible refine Below.setCell ?_ ?_ _) | (with_reducible refine Below.drew ?_) | (with_reducible refine below_setRow ?_ ?_ _) | (refine Below.trans ?_ (Below.mono (by assumption) ?_)))); all_goals (first | omega | (simp; done) | (simp; omega)))
  clear HA kA fA hBA
  have kA := box_cells hA_; have fA := box_frozen hA_; have hBA := box_lt hA_; have HA := Lib.hid hA_; clear hA_
  clear HB kB fB hBB
  have kB := box_cells hB_; have fB := box_frozen hB_; have hBB := box_lt hB_; have HB := Lib.hid hB_; clear hB_
  clear hb4; have hb4 := hb4b; clear hb4b
  go_wp2_with fail
  refine (eqUtf_same d.utf _).mono ?_
  rintro r w5 ⟨rfl, hb5⟩

  have hz5 := hb5.size
  try simp only [World.size_alloc, World.size_setCell, World.size_drew] at hz5
  have hA_ : w5.heap[w.heap.size]? = some (.cells #[.slice a n cap, .int .i64 d.p.root, .int .i64 d.p.deep, .int .i64 d.p.most, .int .i64 d.mode, .slice sa m scap, .int .u64 d.bits, .int .i64 d.have_, .int .i64 d.start, .int .i64 d.at_, .int .i64 d.field.number, .int .i64 d.field.kind, .bool d.field.rep, .bool d.field.packed, .int .i64 d.field.msg, .int .i64 d.wire, .int .i64 d.want, .int .i64 d.utf.want, .int .i64 d.utf.low, .int .i64 d.utf.high, .int .i64 d.end_.kind, .int .i64 d.end_.field, .int .u64 d.end_.bits, .int .i64 d.end_.len, .string d.end_.text, .int .i64 d.end_.code, .int .i64 d.end_.at_] 51 (0, 0)) := (hb5.block _ (by first | omega | (simp; done) | (simp; omega))).trans (by (repeat (first | (with_reducible exact HA.out) | (with_reducible refine hset_other ?_ (by simp; try omega)))))
  have hB_ : w5.heap[w.heap.size + 1]? = some (.cells #[.slice b n cap', .int .i64 d.p.root, .int .i64 d.p.deep, .int .i64 d.p.most, .int .i64 d.mode, .slice sb m scap', .int .u64 d.bits, .int .i64 d.have_, .int .i64 d.start, .int .i64 d.at_, .int .i64 d.field.number, .int .i64 d.field.kind, .bool d.field.rep, .bool d.field.packed, .int .i64 d.field.msg, .int .i64 d.wire, .int .i64 d.want, .int .i64 d.utf.want, .int .i64 d.utf.low, .int .i64 d.utf.high, .int .i64 d.end_.kind, .int .i64 d.end_.field, .int .u64 d.end_.bits, .int .i64 d.end_.len, .string d.end_.text, .int .i64 d.end_.code, .int .i64 d.end_.at_] 51 (0, 0)) := (hb5.block _ (by first | omega | (simp; done) | (simp; omega))).trans (by (repeat (first | (with_reducible exact HB.out) | (with_reducible refine hset_other ?_ (by simp; try omega)))))
  have hb5b : Below w4.heap.size w4 w5 := by ((repeat (first | (with_reducible exact Below.refl _ _) | (with_reducible assumption) | (with_reducible refine Below.alloc ?_ ?_ _) | (with_reducible refine Below.setCell ?_ ?_ _) | (with_reducible refine Below.drew ?_) | (with_reducible refine below_setRow ?_ ?_ _) | (refine Below.trans ?_ (Below.mono (by assumption) ?_)))); all_goals (first | omega | (simp; done) | (simp; omega)))
  clear HA kA fA hBA
  have kA := box_cells hA_; have fA := box_frozen hA_; have hBA := box_lt hA_; have HA := Lib.hid hA_; clear hA_
  clear HB kB fB hBB
  have kB := box_cells hB_; have fB := box_frozen hB_; have hBB := box_lt hB_; have HB := Lib.hid hB_; clear hB_
  clear hb5; have hb5 := hb5b; clear hb5b
  go_wp2_with fail
  refine (eqEvent_same d.end_ _).mono ?_
  rintro r w6 ⟨rfl, hb6⟩

  have hz6 := hb6.size
  try simp only [World.size_alloc, World.size_setCell, World.size_drew] at hz6
  have hA_ : w6.heap[w.heap.size]? = some (.cells #[.slice a n cap, .int .i64 d.p.root, .int .i64 d.p.deep, .int .i64 d.p.most, .int .i64 d.mode, .slice sa m scap, .int .u64 d.bits, .int .i64 d.have_, .int .i64 d.start, .int .i64 d.at_, .int .i64 d.field.number, .int .i64 d.field.kind, .bool d.field.rep, .bool d.field.packed, .int .i64 d.field.msg, .int .i64 d.wire, .int .i64 d.want, .int .i64 d.utf.want, .int .i64 d.utf.low, .int .i64 d.utf.high, .int .i64 d.end_.kind, .int .i64 d.end_.field, .int .u64 d.end_.bits, .int .i64 d.end_.len, .string d.end_.text, .int .i64 d.end_.code, .int .i64 d.end_.at_] 51 (0, 0)) := (hb6.block _ (by first | omega | (simp; done) | (simp; omega))).trans (by (repeat (first | (with_reducible exact HA.out) | (with_reducible refine hset_other ?_ (by simp; try omega)))))
  have hB_ : w6.heap[w.heap.size + 1]? = some (.cells #[.slice b n cap', .int .i64 d.p.root, .int .i64 d.p.deep, .int .i64 d.p.most, .int .i64 d.mode, .slice sb m scap', .int .u64 d.bits, .int .i64 d.have_, .int .i64 d.start, .int .i64 d.at_, .int .i64 d.field.number, .int .i64 d.field.kind, .bool d.field.rep, .bool d.field.packed, .int .i64 d.field.msg, .int .i64 d.wire, .int .i64 d.want, .int .i64 d.utf.want, .int .i64 d.utf.low, .int .i64 d.utf.high, .int .i64 d.end_.kind, .int .i64 d.end_.field, .int .u64 d.end_.bits, .int .i64 d.end_.len, .string d.end_.text, .int .i64 d.end_.code, .int .i64 d.end_.at_] 51 (0, 0)) := (hb6.block _ (by first | omega | (simp; done) | (simp; omega))).trans (by (repeat (first | (with_reducible exact HB.out) | (with_reducible refine hset_other ?_ (by simp; try omega)))))
  have hb6b : Below w5.heap.size w5 w6 := by ((repeat (first | (with_reducible exact Below.refl _ _) | (with_reducible assumption) | (with_reducible refine Below.alloc ?_ ?_ _) | (with_reducible refine Below.setCell ?_ ?_ _) | (with_reducible refine Below.drew ?_) | (with_reducible refine below_setRow ?_ ?_ _) | (refine Below.trans ?_ (Below.mono (by assumption) ?_)))); all_goals (first | omega | (simp; done) | (simp; omega)))
  clear HA kA fA hBA
  have kA := box_cells hA_; have fA := box_frozen hA_; have hBA := box_lt hA_; have HA := Lib.hid hA_; clear hA_
  clear HB kB fB hBB
  have kB := box_cells hB_; have fB := box_frozen hB_; have hBB := box_lt hB_; have HB := Lib.hid hB_; clear hB_
  clear hb6; have hb6 := hb6b; clear hb6b
  go_wp2
  go_ret
  exact ⟨rfl, by ((repeat (first | (with_reducible exact Below.refl _ _) | (with_reducible assumption) | (with_reducible refine Below.alloc ?_ ?_ _) | (with_reducible refine Below.setCell ?_ ?_ _) | (with_reducible refine Below.drew ?_) | (with_reducible refine below_setRow ?_ ?_ _) | (refine Below.trans ?_ (Below.mono (by assumption) ?_)))); all_goals (first | omega | (simp; done) | (simp; omega)))⟩
end Go.Proofs.YtigmdaiecdoimaaGreat

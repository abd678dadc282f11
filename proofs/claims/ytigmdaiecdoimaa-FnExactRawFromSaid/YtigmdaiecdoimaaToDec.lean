/- A decoder copied by the law's own function. (Printed by wip/tools/decgen.py todec.) -/
import Derived.Test.YtigmdaiecdoimaaDecW
namespace Go.Proofs.Ytigmdaiecdoimaa
set_option linter.unusedSimpArgs false
set_option linter.unusedVariables false
open Go.ChangeShapes Go.WideShapes Go.ChangeAt Go.RowKit Go.BigFrame

theorem size_Dec : (Try.prog.info? 69).map (·.size) = some 27 := by kernel_rfl
theorem one_Dec (d : Dc) (a b : Option Addr) (n c m e : Nat) : (#[.slice a n c, .int .i64 d.p.root, .int .i64 d.p.deep, .int .i64 d.p.most, .int .i64 d.mode, .slice b m e, .int .u64 d.bits, .int .i64 d.have_, .int .i64 d.start, .int .i64 d.at_, .int .i64 d.field.number, .int .i64 d.field.kind, .bool d.field.rep, .bool d.field.packed, .int .i64 d.field.msg, .int .i64 d.wire, .int .i64 d.want, .int .i64 d.utf.want, .int .i64 d.utf.low, .int .i64 d.utf.high, .int .i64 d.end_.kind, .int .i64 d.end_.field, .int .u64 d.end_.bits, .int .i64 d.end_.len, .string d.end_.text, .int .i64 d.end_.code, .int .i64 d.end_.at_] : Array Value).all (·.oneCell') = true := by simp [Value.oneCell']
theorem results_cell {fn : Func} {p : Tmp} {ty : TypeId} (h : fn.results = #[.cell p ty]) {tmps : Array Value} {a : Addr} (hp : tmps.getD p undef = .pointer (some a)) {P : Program} {w : World} {v : Value} (hv : (loadVar ty a).run P w = .ok v w) : (results fn tmps).run P w = .ok v w := by
  have hp' : tmps[p]?.getD undef = .pointer (some a) := by simpa using hp
  simp only [results, h]
  simp [Sem.run_bind, Result.andThen, hp', asAddr, hv]
theorem range_of_cells {w : World} {b : Nat} {cs : List Value} (h : ∀ i, w.cell? ⟨b, i, none⟩ = (cs.toArray)[i]?) : w.rangeAt b 0 cs := by
  intro j u hj
  rw [Nat.zero_add, h]; simpa using hj
theorem size_LDec : (Try.prog.info? 83).map (·.size) = some 27 := by kernel_rfl
theorem range_of_box {w : World} {b : Nat} {cs : List Value} {t : TypeId} (h : w.heap[b]? = some (.cells cs.toArray t (0, 0))) : w.rangeAt b 0 cs := by
  intro j u hj
  simp [World.cell?, h, hj]

set_option maxRecDepth 100000 in
set_option maxHeartbeats 2000000 in
theorem toDec_any (d : Dc) (a : Option Addr) (cap : Nat) (xs : List Shp) (sa : Option Addr) (scap : Nat) (ls : List Lvl) (w : World) (h : Shs w a xs) (h' : Lvls w sa ls) (hn : xs.length ≤ 1048576) (hm : fldSum xs ≤ 1048576) (hm' : ls.length ≤ 1048576) :
    Calls Try.prog 41 #[d.val (.slice a xs.length cap) (.slice sa ls.length scap)] w (FreshDec w 38 40 131 d xs ls) := by
  have HSs := Lib.hid h; clear h
  have HSl := Lib.hid h'; clear h'
  go_enter Try.func41, Try.ntmps41
  go_wp2_with fail
  refine (toPlan_any _ _ _ _ xs _ (HSs.out.keep (by ((repeat (first | (with_reducible exact Below.refl _ _) | (with_reducible assumption) | (with_reducible refine Below.alloc ?_ ?_ _) | (with_reducible refine Below.setCell ?_ ?_ _) | (with_reducible refine Below.drew ?_) | (with_reducible refine below_setRow ?_ ?_ _) | (refine Below.trans ?_ (Below.mono (by assumption) ?_)))); all_goals (first | omega | (simp; done) | (simp; omega))))) rfl hn hm).mono ?_
  rintro r w1 ⟨a1, cap1, rs1, rfl, ho1, hb1⟩
  have P1_ : OwnShs w1 (w.heap.size + 1 + 1 + 1) 38 40 (.slice a1 xs.length cap1) xs.length rs1 xs := OwnShs.le ho1 (by simp only [World.size_alloc] <;> omega)
  clear ho1
  have P1 := Lib.hid P1_
  clear P1_
  have hz1 := hb1.size
  try simp only [World.size_alloc, World.size_setCell, World.size_drew] at hz1
  have hA_ : w1.heap[w.heap.size]? = some (.cells #[.slice a xs.length cap, .int .i64 d.p.root, .int .i64 d.p.deep, .int .i64 d.p.most, .int .i64 d.mode, .slice sa ls.length scap, .int .u64 d.bits, .int .i64 d.have_, .int .i64 d.start, .int .i64 d.at_, .int .i64 d.field.number, .int .i64 d.field.kind, .bool d.field.rep, .bool d.field.packed, .int .i64 d.field.msg, .int .i64 d.wire, .int .i64 d.want, .int .i64 d.utf.want, .int .i64 d.utf.low, .int .i64 d.utf.high, .int .i64 d.end_.kind, .int .i64 d.end_.field, .int .u64 d.end_.bits, .int .i64 d.end_.len, .string d.end_.text, .int .i64 d.end_.code, .int .i64 d.end_.at_] 83 (0, 0)) := (hb1.block _ (by first | omega | (simp; done) | (simp; omega))).trans (hset_alloc (hset_alloc (hset_new (by simp))))
  have hR_ : w1.heap[w.heap.size + 1]? = some (.cells #[.slice none 0 0, .int .i64 0, .int .i64 0, .int .i64 0, .int .i64 0, .slice none 0 0, .int .u64 0, .int .i64 0, .int .i64 0, .int .i64 0, .int .i64 0, .int .i64 0, .bool false, .bool false, .int .i64 0, .int .i64 0, .int .i64 0, .int .i64 0, .int .i64 0, .int .i64 0, .int .i64 0, .int .i64 0, .int .u64 0, .int .i64 0, .string ⟨#[]⟩, .int .i64 0, .int .i64 0] 69 (0, 0)) := (hb1.block _ (by first | omega | (simp; done) | (simp; omega))).trans (hset_alloc (hset_new (by simp)))
  have hO_ : w1.heap[w.heap.size + 1 + 1]? = some (.cells #[.slice none 0 0, .int .i64 0, .int .i64 0, .int .i64 0, .int .i64 0, .slice none 0 0, .int .u64 0, .int .i64 0, .int .i64 0, .int .i64 0, .int .i64 0, .int .i64 0, .bool false, .bool false, .int .i64 0, .int .i64 0, .int .i64 0, .int .i64 0, .int .i64 0, .int .i64 0, .int .i64 0, .int .i64 0, .int .u64 0, .int .i64 0, .string ⟨#[]⟩, .int .i64 0, .int .i64 0] 69 (0, 0)) := (hb1.block _ (by first | omega | (simp; done) | (simp; omega))).trans (hset_new (by simp))
  have hb1b : Below w.heap.size w w1 := by ((repeat (first | (with_reducible exact Below.refl _ _) | (with_reducible assumption) | (with_reducible refine Below.alloc ?_ ?_ _) | (with_reducible refine Below.setCell ?_ ?_ _) | (with_reducible refine Below.drew ?_) | (with_reducible refine below_setRow ?_ ?_ _) | (refine Below.trans ?_ (Below.mono (by assumption) ?_)))); all_goals (first | omega | (simp; done) | (simp; omega)))
  have kA := box_cells hA_; have fA := box_frozen hA_; have hBA := box_lt hA_; have HA := Lib.hid hA_; clear hA_
  have kR := box_cells hR_; have fR := box_frozen hR_; have hBR := box_lt hR_; have HR := Lib.hid hR_; clear hR_
  have kO := box_cells hO_; have fO := box_frozen hO_; have hBO := box_lt hO_; have HO := Lib.hid hO_; clear hO_
  clear hb1; have hb1 := hb1b; clear hb1b
  go_wp2_with fail
  refine (toLevelS_any _ _ _ ls _ (Sl.keep HSl.out (by ((repeat (first | (with_reducible exact Below.refl _ _) | (with_reducible assumption) | (with_reducible refine Below.alloc ?_ ?_ _) | (with_reducible refine Below.setCell ?_ ?_ _) | (with_reducible refine Below.drew ?_) | (with_reducible refine below_setRow ?_ ?_ _) | (refine Below.trans ?_ (Below.mono (by assumption) ?_)))); all_goals (first | omega | (simp; done) | (simp; omega))))) rfl hm').mono ?_
  rintro r w2 ⟨a2, cap2, rfl, ho2, hb2⟩
  have P2_ : w2.ownsRow (w.heap.size + 1 + 1 + 1) 131 2 (.slice a2 ls.length cap2) ls.length (ls.flatMap Lvl.cs) := owns_le ho2 (by simp <;> omega)
  clear ho2
  have P2 := Lib.hid P2_
  clear P2_
  have P1_ : OwnShs w2 (w.heap.size + 1 + 1 + 1) 38 40 (.slice a1 xs.length cap1) xs.length rs1 xs := OwnShs.below (by (repeat (first | (with_reducible exact P1.out) | (with_reducible refine OwnShs.set ?_ (by simp; try omega) _)))) hb2 (Nat.le_refl _)
  clear P1
  have P1 := Lib.hid P1_
  clear P1_
  have hz2 := hb2.size
  try simp only [World.size_alloc, World.size_setCell, World.size_drew] at hz2
  have hA_ : w2.heap[w.heap.size]? = some (.cells #[.slice a xs.length cap, .int .i64 d.p.root, .int .i64 d.p.deep, .int .i64 d.p.most, .int .i64 d.mode, .slice sa ls.length scap, .int .u64 d.bits, .int .i64 d.have_, .int .i64 d.start, .int .i64 d.at_, .int .i64 d.field.number, .int .i64 d.field.kind, .bool d.field.rep, .bool d.field.packed, .int .i64 d.field.msg, .int .i64 d.wire, .int .i64 d.want, .int .i64 d.utf.want, .int .i64 d.utf.low, .int .i64 d.utf.high, .int .i64 d.end_.kind, .int .i64 d.end_.field, .int .u64 d.end_.bits, .int .i64 d.end_.len, .string d.end_.text, .int .i64 d.end_.code, .int .i64 d.end_.at_] 83 (0, 0)) := (hb2.block _ (by first | omega | (simp; done) | (simp; omega))).trans (by (repeat (first | (with_reducible exact HA.out) | (with_reducible refine hset_other ?_ (by simp; try omega)))))
  have hR_ : w2.heap[w.heap.size + 1]? = some (.cells #[.slice none 0 0, .int .i64 0, .int .i64 0, .int .i64 0, .int .i64 0, .slice none 0 0, .int .u64 0, .int .i64 0, .int .i64 0, .int .i64 0, .int .i64 0, .int .i64 0, .bool false, .bool false, .int .i64 0, .int .i64 0, .int .i64 0, .int .i64 0, .int .i64 0, .int .i64 0, .int .i64 0, .int .i64 0, .int .u64 0, .int .i64 0, .string ⟨#[]⟩, .int .i64 0, .int .i64 0] 69 (0, 0)) := (hb2.block _ (by first | omega | (simp; done) | (simp; omega))).trans (by (repeat (first | (with_reducible exact HR.out) | (with_reducible refine hset_other ?_ (by simp; try omega)))))
  have hO_ : w2.heap[w.heap.size + 1 + 1]? = some (.cells #[.slice a1 xs.length cap1, .int .i64 d.p.root, .int .i64 d.p.deep, .int .i64 d.p.most, .int .i64 d.mode, .slice none 0 0, .int .u64 0, .int .i64 0, .int .i64 0, .int .i64 0, .int .i64 0, .int .i64 0, .bool false, .bool false, .int .i64 0, .int .i64 0, .int .i64 0, .int .i64 0, .int .i64 0, .int .i64 0, .int .i64 0, .int .i64 0, .int .u64 0, .int .i64 0, .string ⟨#[]⟩, .int .i64 0, .int .i64 0] 69 (0, 0)) := (hb2.block _ (by first | omega | (simp; done) | (simp; omega))).trans (by apply hset_eq; (repeat (first | (with_reducible exact HO.out) | (with_reducible apply hset_set) | (with_reducible refine hset_other ?_ (by simp; try omega)))); simp only [List.setIfInBounds_toArray, List.set_cons_zero, List.set_cons_succ])
  have hb2b : Below w.heap.size w w2 := by ((repeat (first | (with_reducible exact Below.refl _ _) | (with_reducible assumption) | (with_reducible refine Below.alloc ?_ ?_ _) | (with_reducible refine Below.setCell ?_ ?_ _) | (with_reducible refine Below.drew ?_) | (with_reducible refine below_setRow ?_ ?_ _) | (refine Below.trans ?_ (Below.mono (by assumption) ?_)))); all_goals (first | omega | (simp; done) | (simp; omega)))
  clear HA kA fA hBA
  have kA := box_cells hA_; have fA := box_frozen hA_; have hBA := box_lt hA_; have HA := Lib.hid hA_; clear hA_
  clear HR kR fR hBR
  have kR := box_cells hR_; have fR := box_frozen hR_; have hBR := box_lt hR_; have HR := Lib.hid hR_; clear hR_
  clear HO kO fO hBO
  have kO := box_cells hO_; have fO := box_frozen hO_; have hBO := box_lt hO_; have HO := Lib.hid hO_; clear hO_
  clear hb2; have hb2 := hb2b; clear hb2b
  go_wp2_with fail
  refine (toScan_any _ _ _).mono ?_
  rintro r w3 ⟨rfl, hb3⟩
  have P1_ : OwnShs w3 (w.heap.size + 1 + 1 + 1) 38 40 (.slice a1 xs.length cap1) xs.length rs1 xs := OwnShs.below (by (repeat (first | (with_reducible exact P1.out) | (with_reducible refine OwnShs.set ?_ (by simp; try omega) _)))) hb3 (Nat.le_refl _)
  clear P1
  have P1 := Lib.hid P1_
  clear P1_
  have P2_ : w3.ownsRow (w.heap.size + 1 + 1 + 1) 131 2 (.slice a2 ls.length cap2) ls.length (ls.flatMap Lvl.cs) := owns_below (by (repeat (first | (with_reducible exact P2.out) | (with_reducible refine owns_set ?_ (by simp; try omega) _)))) hb3 (Nat.le_refl _)
  clear P2
  have P2 := Lib.hid P2_
  clear P2_
  have hz3 := hb3.size
  try simp only [World.size_alloc, World.size_setCell, World.size_drew] at hz3
  have hA_ : w3.heap[w.heap.size]? = some (.cells #[.slice a xs.length cap, .int .i64 d.p.root, .int .i64 d.p.deep, .int .i64 d.p.most, .int .i64 d.mode, .slice sa ls.length scap, .int .u64 d.bits, .int .i64 d.have_, .int .i64 d.start, .int .i64 d.at_, .int .i64 d.field.number, .int .i64 d.field.kind, .bool d.field.rep, .bool d.field.packed, .int .i64 d.field.msg, .int .i64 d.wire, .int .i64 d.want, .int .i64 d.utf.want, .int .i64 d.utf.low, .int .i64 d.utf.high, .int .i64 d.end_.kind, .int .i64 d.end_.field, .int .u64 d.end_.bits, .int .i64 d.end_.len, .string d.end_.text, .int .i64 d.end_.code, .int .i64 d.end_.at_] 83 (0, 0)) := (hb3.block _ (by first | omega | (simp; done) | (simp; omega))).trans (by (repeat (first | (with_reducible exact HA.out) | (with_reducible refine hset_other ?_ (by simp; try omega)))))
  have hR_ : w3.heap[w.heap.size + 1]? = some (.cells #[.slice none 0 0, .int .i64 0, .int .i64 0, .int .i64 0, .int .i64 0, .slice none 0 0, .int .u64 0, .int .i64 0, .int .i64 0, .int .i64 0, .int .i64 0, .int .i64 0, .bool false, .bool false, .int .i64 0, .int .i64 0, .int .i64 0, .int .i64 0, .int .i64 0, .int .i64 0, .int .i64 0, .int .i64 0, .int .u64 0, .int .i64 0, .string ⟨#[]⟩, .int .i64 0, .int .i64 0] 69 (0, 0)) := (hb3.block _ (by first | omega | (simp; done) | (simp; omega))).trans (by (repeat (first | (with_reducible exact HR.out) | (with_reducible refine hset_other ?_ (by simp; try omega)))))
  have hO_ : w3.heap[w.heap.size + 1 + 1]? = some (.cells #[.slice a1 xs.length cap1, .int .i64 d.p.root, .int .i64 d.p.deep, .int .i64 d.p.most, .int .i64 d.mode, .slice a2 ls.length cap2, .int .u64 0, .int .i64 0, .int .i64 0, .int .i64 0, .int .i64 0, .int .i64 0, .bool false, .bool false, .int .i64 0, .int .i64 0, .int .i64 0, .int .i64 0, .int .i64 0, .int .i64 0, .int .i64 0, .int .i64 0, .int .u64 0, .int .i64 0, .string ⟨#[]⟩, .int .i64 0, .int .i64 0] 69 (0, 0)) := (hb3.block _ (by first | omega | (simp; done) | (simp; omega))).trans (by apply hset_eq; (repeat (first | (with_reducible exact HO.out) | (with_reducible apply hset_set) | (with_reducible refine hset_other ?_ (by simp; try omega)))); simp only [List.setIfInBounds_toArray, List.set_cons_zero, List.set_cons_succ])
  have hb3b : Below w.heap.size w w3 := by ((repeat (first | (with_reducible exact Below.refl _ _) | (with_reducible assumption) | (with_reducible refine Below.alloc ?_ ?_ _) | (with_reducible refine Below.setCell ?_ ?_ _) | (with_reducible refine Below.drew ?_) | (with_reducible refine below_setRow ?_ ?_ _) | (refine Below.trans ?_ (Below.mono (by assumption) ?_)))); all_goals (first | omega | (simp; done) | (simp; omega)))
  clear HA kA fA hBA
  have kA := box_cells hA_; have fA := box_frozen hA_; have hBA := box_lt hA_; have HA := Lib.hid hA_; clear hA_
  clear HR kR fR hBR
  have kR := box_cells hR_; have fR := box_frozen hR_; have hBR := box_lt hR_; have HR := Lib.hid hR_; clear hR_
  clear HO kO fO hBO
  have kO := box_cells hO_; have fO := box_frozen hO_; have hBO := box_lt hO_; have HO := Lib.hid hO_; clear hO_
  clear hb3; have hb3 := hb3b; clear hb3b
  go_wp2_with fail
  refine (toField_any d.field _).mono ?_
  rintro r w4 ⟨rfl, hb4⟩
  have P1_ : OwnShs w4 (w.heap.size + 1 + 1 + 1) 38 40 (.slice a1 xs.length cap1) xs.length rs1 xs := OwnShs.below (by (repeat (first | (with_reducible exact P1.out) | (with_reducible refine OwnShs.set ?_ (by simp; try omega) _)))) hb4 (Nat.le_refl _)
  clear P1
  have P1 := Lib.hid P1_
  clear P1_
  have P2_ : w4.ownsRow (w.heap.size + 1 + 1 + 1) 131 2 (.slice a2 ls.length cap2) ls.length (ls.flatMap Lvl.cs) := owns_below (by (repeat (first | (with_reducible exact P2.out) | (with_reducible refine owns_set ?_ (by simp; try omega) _)))) hb4 (Nat.le_refl _)
  clear P2
  have P2 := Lib.hid P2_
  clear P2_
  have hz4 := hb4.size
  try simp only [World.size_alloc, World.size_setCell, World.size_drew] at hz4
  have hA_ : w4.heap[w.heap.size]? = some (.cells #[.slice a xs.length cap, .int .i64 d.p.root, .int .i64 d.p.deep, .int .i64 d.p.most, .int .i64 d.mode, .slice sa ls.length scap, .int .u64 d.bits, .int .i64 d.have_, .int .i64 d.start, .int .i64 d.at_, .int .i64 d.field.number, .int .i64 d.field.kind, .bool d.field.rep, .bool d.field.packed, .int .i64 d.field.msg, .int .i64 d.wire, .int .i64 d.want, .int .i64 d.utf.want, .int .i64 d.utf.low, .int .i64 d.utf.high, .int .i64 d.end_.kind, .int .i64 d.end_.field, .int .u64 d.end_.bits, .int .i64 d.end_.len, .string d.end_.text, .int .i64 d.end_.code, .int .i64 d.end_.at_] 83 (0, 0)) := (hb4.block _ (by first | omega | (simp; done) | (simp; omega))).trans (by (repeat (first | (with_reducible exact HA.out) | (with_reducible refine hset_other ?_ (by simp; try omega)))))
  have hR_ : w4.heap[w.heap.size + 1]? = some (.cells #[.slice none 0 0, .int .i64 0, .int .i64 0, .int .i64 0, .int .i64 0, .slice none 0 0, .int .u64 0, .int .i64 0, .int .i64 0, .int .i64 0, .int .i64 0, .int .i64 0, .bool false, .bool false, .int .i64 0, .int .i64 0, .int .i64 0, .int .i64 0, .int .i64 0, .int .i64 0, .int .i64 0, .int .i64 0, .int .u64 0, .int .i64 0, .string ⟨#[]⟩, .int .i64 0, .int .i64 0] 69 (0, 0)) := (hb4.block _ (by first | omega | (simp; done) | (simp; omega))).trans (by (repeat (first | (with_reducible exact HR.out) | (with_reducible refine hset_other ?_ (by simp; try omega)))))
  have hO_ : w4.heap[w.heap.size + 1 + 1]? = some (.cells #[.slice a1 xs.length cap1, .int .i64 d.p.root, .int .i64 d.p.deep, .int .i64 d.p.most, .int .i64 d.mode, .slice a2 ls.length cap2, .int .u64 d.bits, .int .i64 d.have_, .int .i64 d.start, .int .i64 d.at_, .int .i64 0, .int .i64 0, .bool false, .bool false, .int .i64 0, .int .i64 0, .int .i64 0, .int .i64 0, .int .i64 0, .int .i64 0, .int .i64 0, .int .i64 0, .int .u64 0, .int .i64 0, .string ⟨#[]⟩, .int .i64 0, .int .i64 0] 69 (0, 0)) := (hb4.block _ (by first | omega | (simp; done) | (simp; omega))).trans (by apply hset_eq; (repeat (first | (with_reducible exact HO.out) | (with_reducible apply hset_set) | (with_reducible refine hset_other ?_ (by simp; try omega)))); simp only [List.setIfInBounds_toArray, List.set_cons_zero, List.set_cons_succ])
  have hb4b : Below w.heap.size w w4 := by ((repeat (first | (with_reducible exact Below.refl _ _) | (with_reducible assumption) | (with_reducible refine Below.alloc ?_ ?_ _) | (with_reducible refine Below.setCell ?_ ?_ _) | (with_reducible refine Below.drew ?_) | (with_reducible refine below_setRow ?_ ?_ _) | (refine Below.trans ?_ (Below.mono (by assumption) ?_)))); all_goals (first | omega | (simp; done) | (simp; omega)))
  clear HA kA fA hBA
  have kA := box_cells hA_; have fA := box_frozen hA_; have hBA := box_lt hA_; have HA := Lib.hid hA_; clear hA_
  clear HR kR fR hBR
  have kR := box_cells hR_; have fR := box_frozen hR_; have hBR := box_lt hR_; have HR := Lib.hid hR_; clear hR_
  clear HO kO fO hBO
  have kO := box_cells hO_; have fO := box_frozen hO_; have hBO := box_lt hO_; have HO := Lib.hid hO_; clear hO_
  clear hb4; have hb4 := hb4b; clear hb4b
  go_wp2_with fail
  refine (toUtf_any d.utf _).mono ?_
  rintro r w5 ⟨rfl, hb5⟩
  have P1_ : OwnShs w5 (w.heap.size + 1 + 1 + 1) 38 40 (.slice a1 xs.length cap1) xs.length rs1 xs := OwnShs.below (by (repeat (first | (with_reducible exact P1.out) | (with_reducible refine OwnShs.set ?_ (by simp; try omega) _)))) hb5 (Nat.le_refl _)
  clear P1
  have P1 := Lib.hid P1_
  clear P1_
  have P2_ : w5.ownsRow (w.heap.size + 1 + 1 + 1) 131 2 (.slice a2 ls.length cap2) ls.length (ls.flatMap Lvl.cs) := owns_below (by (repeat (first | (with_reducible exact P2.out) | (with_reducible refine owns_set ?_ (by simp; try omega) _)))) hb5 (Nat.le_refl _)
  clear P2
  have P2 := Lib.hid P2_
  clear P2_
  have hz5 := hb5.size
  try simp only [World.size_alloc, World.size_setCell, World.size_drew] at hz5
  have hA_ : w5.heap[w.heap.size]? = some (.cells #[.slice a xs.length cap, .int .i64 d.p.root, .int .i64 d.p.deep, .int .i64 d.p.most, .int .i64 d.mode, .slice sa ls.length scap, .int .u64 d.bits, .int .i64 d.have_, .int .i64 d.start, .int .i64 d.at_, .int .i64 d.field.number, .int .i64 d.field.kind, .bool d.field.rep, .bool d.field.packed, .int .i64 d.field.msg, .int .i64 d.wire, .int .i64 d.want, .int .i64 d.utf.want, .int .i64 d.utf.low, .int .i64 d.utf.high, .int .i64 d.end_.kind, .int .i64 d.end_.field, .int .u64 d.end_.bits, .int .i64 d.end_.len, .string d.end_.text, .int .i64 d.end_.code, .int .i64 d.end_.at_] 83 (0, 0)) := (hb5.block _ (by first | omega | (simp; done) | (simp; omega))).trans (by (repeat (first | (with_reducible exact HA.out) | (with_reducible refine hset_other ?_ (by simp; try omega)))))
  have hR_ : w5.heap[w.heap.size + 1]? = some (.cells #[.slice none 0 0, .int .i64 0, .int .i64 0, .int .i64 0, .int .i64 0, .slice none 0 0, .int .u64 0, .int .i64 0, .int .i64 0, .int .i64 0, .int .i64 0, .int .i64 0, .bool false, .bool false, .int .i64 0, .int .i64 0, .int .i64 0, .int .i64 0, .int .i64 0, .int .i64 0, .int .i64 0, .int .i64 0, .int .u64 0, .int .i64 0, .string ⟨#[]⟩, .int .i64 0, .int .i64 0] 69 (0, 0)) := (hb5.block _ (by first | omega | (simp; done) | (simp; omega))).trans (by (repeat (first | (with_reducible exact HR.out) | (with_reducible refine hset_other ?_ (by simp; try omega)))))
  have hO_ : w5.heap[w.heap.size + 1 + 1]? = some (.cells #[.slice a1 xs.length cap1, .int .i64 d.p.root, .int .i64 d.p.deep, .int .i64 d.p.most, .int .i64 d.mode, .slice a2 ls.length cap2, .int .u64 d.bits, .int .i64 d.have_, .int .i64 d.start, .int .i64 d.at_, .int .i64 d.field.number, .int .i64 d.field.kind, .bool d.field.rep, .bool d.field.packed, .int .i64 d.field.msg, .int .i64 d.wire, .int .i64 d.want, .int .i64 0, .int .i64 0, .int .i64 0, .int .i64 0, .int .i64 0, .int .u64 0, .int .i64 0, .string ⟨#[]⟩, .int .i64 0, .int .i64 0] 69 (0, 0)) := (hb5.block _ (by first | omega | (simp; done) | (simp; omega))).trans (by apply hset_eq; (repeat (first | (with_reducible exact HO.out) | (with_reducible apply hset_set) | (with_reducible refine hset_other ?_ (by simp; try omega)))); simp only [List.setIfInBounds_toArray, List.set_cons_zero, List.set_cons_succ])
  have hb5b : Below w.heap.size w w5 := by ((repeat (first | (with_reducible exact Below.refl _ _) | (with_reducible assumption) | (with_reducible refine Below.alloc ?_ ?_ _) | (with_reducible refine Below.setCell ?_ ?_ _) | (with_reducible refine Below.drew ?_) | (with_reducible refine below_setRow ?_ ?_ _) | (refine Below.trans ?_ (Below.mono (by assumption) ?_)))); all_goals (first | omega | (simp; done) | (simp; omega)))
  clear HA kA fA hBA
  have kA := box_cells hA_; have fA := box_frozen hA_; have hBA := box_lt hA_; have HA := Lib.hid hA_; clear hA_
  clear HR kR fR hBR
  have kR := box_cells hR_; have fR := box_frozen hR_; have hBR := box_lt hR_; have HR := Lib.hid hR_; clear hR_
  clear HO kO fO hBO
  have kO := box_cells hO_; have fO := box_frozen hO_; have hBO := box_lt hO_; have HO := Lib.hid hO_; clear hO_
  clear hb5; have hb5 := hb5b; clear hb5b
  go_wp2_with fail
  refine (toEvent_any d.end_ _).mono ?_
  rintro r w6 ⟨rfl, hb6⟩
  have P1_ : OwnShs w6 (w.heap.size + 1 + 1 + 1) 38 40 (.slice a1 xs.length cap1) xs.length rs1 xs := OwnShs.below (by (repeat (first | (with_reducible exact P1.out) | (with_reducible refine OwnShs.set ?_ (by simp; try omega) _)))) hb6 (Nat.le_refl _)
  clear P1
  have P1 := Lib.hid P1_
  clear P1_
  have P2_ : w6.ownsRow (w.heap.size + 1 + 1 + 1) 131 2 (.slice a2 ls.length cap2) ls.length (ls.flatMap Lvl.cs) := owns_below (by (repeat (first | (with_reducible exact P2.out) | (with_reducible refine owns_set ?_ (by simp; try omega) _)))) hb6 (Nat.le_refl _)
  clear P2
  have P2 := Lib.hid P2_
  clear P2_
  have hz6 := hb6.size
  try simp only [World.size_alloc, World.size_setCell, World.size_drew] at hz6
  have hA_ : w6.heap[w.heap.size]? = some (.cells #[.slice a xs.length cap, .int .i64 d.p.root, .int .i64 d.p.deep, .int .i64 d.p.most, .int .i64 d.mode, .slice sa ls.length scap, .int .u64 d.bits, .int .i64 d.have_, .int .i64 d.start, .int .i64 d.at_, .int .i64 d.field.number, .int .i64 d.field.kind, .bool d.field.rep, .bool d.field.packed, .int .i64 d.field.msg, .int .i64 d.wire, .int .i64 d.want, .int .i64 d.utf.want, .int .i64 d.utf.low, .int .i64 d.utf.high, .int .i64 d.end_.kind, .int .i64 d.end_.field, .int .u64 d.end_.bits, .int .i64 d.end_.len, .string d.end_.text, .int .i64 d.end_.code, .int .i64 d.end_.at_] 83 (0, 0)) := (hb6.block _ (by first | omega | (simp; done) | (simp; omega))).trans (by (repeat (first | (with_reducible exact HA.out) | (with_reducible refine hset_other ?_ (by simp; try omega)))))
  have hR_ : w6.heap[w.heap.size + 1]? = some (.cells #[.slice none 0 0, .int .i64 0, .int .i64 0, .int .i64 0, .int .i64 0, .slice none 0 0, .int .u64 0, .int .i64 0, .int .i64 0, .int .i64 0, .int .i64 0, .int .i64 0, .bool false, .bool false, .int .i64 0, .int .i64 0, .int .i64 0, .int .i64 0, .int .i64 0, .int .i64 0, .int .i64 0, .int .i64 0, .int .u64 0, .int .i64 0, .string ⟨#[]⟩, .int .i64 0, .int .i64 0] 69 (0, 0)) := (hb6.block _ (by first | omega | (simp; done) | (simp; omega))).trans (by (repeat (first | (with_reducible exact HR.out) | (with_reducible refine hset_other ?_ (by simp; try omega)))))
  have hO_ : w6.heap[w.heap.size + 1 + 1]? = some (.cells #[.slice a1 xs.length cap1, .int .i64 d.p.root, .int .i64 d.p.deep, .int .i64 d.p.most, .int .i64 d.mode, .slice a2 ls.length cap2, .int .u64 d.bits, .int .i64 d.have_, .int .i64 d.start, .int .i64 d.at_, .int .i64 d.field.number, .int .i64 d.field.kind, .bool d.field.rep, .bool d.field.packed, .int .i64 d.field.msg, .int .i64 d.wire, .int .i64 d.want, .int .i64 d.utf.want, .int .i64 d.utf.low, .int .i64 d.utf.high, .int .i64 0, .int .i64 0, .int .u64 0, .int .i64 0, .string ⟨#[]⟩, .int .i64 0, .int .i64 0] 69 (0, 0)) := (hb6.block _ (by first | omega | (simp; done) | (simp; omega))).trans (by apply hset_eq; (repeat (first | (with_reducible exact HO.out) | (with_reducible apply hset_set) | (with_reducible refine hset_other ?_ (by simp; try omega)))); simp only [List.setIfInBounds_toArray, List.set_cons_zero, List.set_cons_succ])
  have hb6b : Below w.heap.size w w6 := by ((repeat (first | (with_reducible exact Below.refl _ _) | (with_reducible assumption) | (with_reducible refine Below.alloc ?_ ?_ _) | (with_reducible refine Below.setCell ?_ ?_ _) | (with_reducible refine Below.drew ?_) | (with_reducible refine below_setRow ?_ ?_ _) | (refine Below.trans ?_ (Below.mono (by assumption) ?_)))); all_goals (first | omega | (simp; done) | (simp; omega)))
  clear HA kA fA hBA
  have kA := box_cells hA_; have fA := box_frozen hA_; have hBA := box_lt hA_; have HA := Lib.hid hA_; clear hA_
  clear HR kR fR hBR
  have kR := box_cells hR_; have fR := box_frozen hR_; have hBR := box_lt hR_; have HR := Lib.hid hR_; clear hR_
  clear HO kO fO hBO
  have kO := box_cells hO_; have fO := box_frozen hO_; have hBO := box_lt hO_; have HO := Lib.hid hO_; clear hO_
  clear hb6; have hb6 := hb6b; clear hb6b
  go_wp2_with (first
    | (refine wpList_load_mid rfl 69 (.tmp 3) rfl (w.heap.size + 1 + 1) 0 rfl [.slice a1 xs.length cap1, .int .i64 d.p.root, .int .i64 d.p.deep, .int .i64 d.p.most, .int .i64 d.mode, .slice a2 ls.length cap2, .int .u64 d.bits, .int .i64 d.have_, .int .i64 d.start, .int .i64 d.at_, .int .i64 d.field.number, .int .i64 d.field.kind, .bool d.field.rep, .bool d.field.packed, .int .i64 d.field.msg, .int .i64 d.wire, .int .i64 d.want, .int .i64 d.utf.want, .int .i64 d.utf.low, .int .i64 d.utf.high, .int .i64 d.end_.kind, .int .i64 d.end_.field, .int .u64 d.end_.bits, .int .i64 d.end_.len, .string d.end_.text, .int .i64 d.end_.code, .int .i64 d.end_.at_] _ (range_of_box (t := 69) (by apply hset_eq; (repeat (first | (with_reducible exact HO.out) | (with_reducible apply hset_set) | (with_reducible refine hset_other ?_ (by simp; try omega)))); simp only [List.setIfInBounds_toArray, List.set_cons_zero, List.set_cons_succ])) Try.underlying69 rfl size_Dec ?_)
    | (refine wpList_store_row rfl 69 (.tmp 2) (.tmp 43) rfl (w.heap.size + 1) #[.slice a1 xs.length cap1, .int .i64 d.p.root, .int .i64 d.p.deep, .int .i64 d.p.most, .int .i64 d.mode, .slice a2 ls.length cap2, .int .u64 d.bits, .int .i64 d.have_, .int .i64 d.start, .int .i64 d.at_, .int .i64 d.field.number, .int .i64 d.field.kind, .bool d.field.rep, .bool d.field.packed, .int .i64 d.field.msg, .int .i64 d.wire, .int .i64 d.want, .int .i64 d.utf.want, .int .i64 d.utf.low, .int .i64 d.utf.high, .int .i64 d.end_.kind, .int .i64 d.end_.field, .int .u64 d.end_.bits, .int .i64 d.end_.len, .string d.end_.text, .int .i64 d.end_.code, .int .i64 d.end_.at_] rfl rfl 69 #[.slice none 0 0, .int .i64 0, .int .i64 0, .int .i64 0, .int .i64 0, .slice none 0 0, .int .u64 0, .int .i64 0, .int .i64 0, .int .i64 0, .int .i64 0, .int .i64 0, .bool false, .bool false, .int .i64 0, .int .i64 0, .int .i64 0, .int .i64 0, .int .i64 0, .int .i64 0, .int .i64 0, .int .i64 0, .int .u64 0, .int .i64 0, .string ⟨#[]⟩, .int .i64 0, .int .i64 0] (by (repeat (first | (with_reducible exact HR.out) | (with_reducible refine hset_other ?_ (by simp; try omega))))) size_Dec rfl (one_Dec _ _ _ _ _ _ _) ?_))
  refine bodyPost_world ?_
  intro W hW
  have hR_ : W.heap[w.heap.size + 1]? = some (.cells #[.slice a1 xs.length cap1, .int .i64 d.p.root, .int .i64 d.p.deep, .int .i64 d.p.most, .int .i64 d.mode, .slice a2 ls.length cap2, .int .u64 d.bits, .int .i64 d.have_, .int .i64 d.start, .int .i64 d.at_, .int .i64 d.field.number, .int .i64 d.field.kind, .bool d.field.rep, .bool d.field.packed, .int .i64 d.field.msg, .int .i64 d.wire, .int .i64 d.want, .int .i64 d.utf.want, .int .i64 d.utf.low, .int .i64 d.utf.high, .int .i64 d.end_.kind, .int .i64 d.end_.field, .int .u64 d.end_.bits, .int .i64 d.end_.len, .string d.end_.text, .int .i64 d.end_.code, .int .i64 d.end_.at_] 69 (0, 0)) := by rw [hW]; refine hset_row (cs := #[.slice none 0 0, .int .i64 0, .int .i64 0, .int .i64 0, .int .i64 0, .slice none 0 0, .int .u64 0, .int .i64 0, .int .i64 0, .int .i64 0, .int .i64 0, .int .i64 0, .bool false, .bool false, .int .i64 0, .int .i64 0, .int .i64 0, .int .i64 0, .int .i64 0, .int .i64 0, .int .i64 0, .int .i64 0, .int .u64 0, .int .i64 0, .string ⟨#[]⟩, .int .i64 0, .int .i64 0]) ?_; (repeat (first | (with_reducible exact HR.out) | (with_reducible refine hset_other ?_ (by simp; try omega))))
  have hbW : Below w.heap.size w W := by rw [hW]; ((repeat (first | (with_reducible exact Below.refl _ _) | (with_reducible assumption) | (with_reducible refine Below.alloc ?_ ?_ _) | (with_reducible refine Below.setCell ?_ ?_ _) | (with_reducible refine Below.drew ?_) | (with_reducible refine below_setRow ?_ ?_ _) | (refine Below.trans ?_ (Below.mono (by assumption) ?_)))); all_goals (first | omega | (simp; done) | (simp; omega)))
  have Q1 : OwnShs W (w.heap.size + 1 + 1 + 1) 38 40 (.slice a1 xs.length cap1) xs.length rs1 xs := by rw [hW]; refine OwnShs.setRow ?_ (by omega) _; (repeat (first | (with_reducible exact P1.out) | (with_reducible refine OwnShs.set ?_ (by simp; try omega) _)))
  have Q2 : W.ownsRow (w.heap.size + 1 + 1 + 1) 131 2 (.slice a2 ls.length cap2) ls.length (ls.flatMap Lvl.cs) := by rw [hW]; refine owns_setRow ?_ (by omega) _; (repeat (first | (with_reducible exact P2.out) | (with_reducible refine owns_set ?_ (by simp; try omega) _)))
  exact bodyPost_ret (v := d.val (.slice a1 xs.length cap1) (.slice a2 ls.length cap2)) (results_cell Try.results41 rfl (run_loadVar_mid W (w.heap.size + 1) 0 69 [.slice a1 xs.length cap1, .int .i64 d.p.root, .int .i64 d.p.deep, .int .i64 d.p.most, .int .i64 d.mode, .slice a2 ls.length cap2, .int .u64 d.bits, .int .i64 d.have_, .int .i64 d.start, .int .i64 d.at_, .int .i64 d.field.number, .int .i64 d.field.kind, .bool d.field.rep, .bool d.field.packed, .int .i64 d.field.msg, .int .i64 d.wire, .int .i64 d.want, .int .i64 d.utf.want, .int .i64 d.utf.low, .int .i64 d.utf.high, .int .i64 d.end_.kind, .int .i64 d.end_.field, .int .u64 d.end_.bits, .int .i64 d.end_.len, .string d.end_.text, .int .i64 d.end_.code, .int .i64 d.end_.at_] _ (range_of_box hR_) Try.underlying69 rfl size_Dec)) rfl ⟨a1, cap1, rs1, a2, cap2, rfl, Q1.le (by omega), owns_le Q2 (by omega), hbW⟩
end Go.Proofs.Ytigmdaiecdoimaa

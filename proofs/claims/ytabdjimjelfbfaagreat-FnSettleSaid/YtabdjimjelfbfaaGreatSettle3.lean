/- Texts that FnSettle leans on, part 3. (Put together by wip/tools/bundle.py.) -/
import Derived.Deep.MidRow
import Derived.Test.YtabdjimjelfbfaaGreatSettle1
import Derived.Test.YtabdjimjelfbfaaGreatSettle2
namespace Go.Proofs.YtabdjimjelfbfaaGreat
set_option linter.unusedSimpArgs false
set_option linter.unusedVariables false
open Go.ChangeShapes Go.WideShapes Go.ChangeAt Go.RowKit Go.BigFrame
def widthOf (w : Int) : Int := if w = 1 then 8 else if w = 5 then 4 else 0
def wireOf (k : Int) : Int := if inB k 1 8 then (if k = 4 then 5 else if k = 5 then 1 else if inB k 1 5 then 0 else 2) else -1
def wireOk (w : Int) : Bool := w == 0 || (w == 1 || (w == 2 || w == 5))
def allowed (f : Fld) (w : Int) : Bool := w == wireOf f.kind || (w == 2 && runsF f)
theorem eight {k : Int} (h : inB k 1 8 = true) : k = 1 ∨ k = 2 ∨ k = 3 ∨ k = 4 ∨ k = 5 ∨ k = 6 ∨ k = 7 ∨ k = 8 := by
 simp only [inB, decide_eq_true_eq] at h; omega
theorem ten_nat' {k : Nat} (h : k < 10) : k = 0 ∨ k = 1 ∨ k = 2 ∨ k = 3 ∨ k = 4 ∨ k = 5 ∨ k = 6 ∨ k = 7 ∨ k = 8 ∨ k = 9 := by omega
theorem widthOf_cases (w : Int) : widthOf w = 0 ∨ widthOf w = 4 ∨ widthOf w = 8 := by unfold widthOf; split <;> (try split) <;> simp
theorem specWidthOf_any (x : Int) (w : World) : Calls Tryz.prog 63 #[.int .i64 x] w fun r w' => r = .returned (.int .i64 (widthOf x)) ∧ w = w' := by
 go_enter Tryz.func63, Tryz.ntmps63
 go_wp2
 all_goals (go_ret; exact ⟨ret_int (by simp_all [widthOf]), rfl⟩)
theorem specWireOk_any (x : Int) (w : World) : Calls Tryz.prog 61 #[.int .i64 x] w fun r w' => r = .returned (.bool (wireOk x)) ∧ w = w' := by
 go_enter Tryz.func61, Tryz.ntmps61
 go_wp2
 all_goals (go_ret; exact ⟨ret_bool (by simp_all [wireOk, Bool.or_assoc]), rfl⟩)
theorem specWireOf_any (k : Int) (w : World) : Calls Tryz.prog 53 #[.int .i64 k] w fun r w' => r = .returned (.int .i64 (wireOf k)) ∧ Below w.heap.size w w' := by
 cases h : inB k 1 8
 ·have hw : wireOf k = -1 := by simp [wireOf, h]
  rw [hw]
  go_enter Tryz.func53, Tryz.ntmps53
  go_wp2_with (first | (go_at_call 90; refine (l6Kind_any _ _).mono ?_; rintro r w1 ⟨rfl, rfl⟩))
  go_ret
  exact ⟨rfl, by exact bl⟩
 ·rcases eight h with rfl | rfl | rfl | rfl | rfl | rfl | rfl | rfl
  all_goals
   clear h
   go_enter Tryz.func53, Tryz.ntmps53
   go_wp2_with (first | (go_at_call 90; refine (l6Kind_any _ _).mono ?_; rintro r w1 ⟨rfl, rfl⟩) | (go_at_call 91; refine (specNumeric_any _ _).mono ?_; rintro r w1 ⟨rfl, rfl⟩))
   go_ret
   exact ⟨rfl, by exact bl⟩
theorem specAllowed_any (f : Fld) (x : Int) (w : World) (hx : wireOk x = true) : Calls Tryz.prog 62 #[f.val, .int .i64 x] w fun r w' => r = .returned (.bool (allowed f x)) ∧ Below w.heap.size w w' := by
 obtain ⟨fn, fk, fr, fp, fm⟩ := f
 have hx1 : ¬ x = -1 := by rintro rfl; simp [wireOk] at hx
 clear hx
 cases hk : inB fk 1 8
 ·have hw : wireOf fk = -1 := by simp [wireOf, hk]
  go_enter Tryz.func62, Tryz.ntmps62
  go_wp2_with (first
   | (go_at_call 90; refine (l6Kind_any _ _).mono ?_; rintro r w1 ⟨rfl, rfl⟩)
   | (go_at_call 74; refine (specRuns_any ⟨fn, fk, fr, fp, fm⟩ _).mono ?_; rintro r w2 ⟨rfl, hb2⟩; obtain ⟨hc2, hf2⟩ := bcell hb2; have hz2 := hb2.size; (try simp only [World.size_alloc, World.size_setCell, World.size_drew] at hz2); have hy2_0 : w.heap.size < w2.heap.size := by omega))
  all_goals
   go_ret
   exact ⟨ret_bool (by simp_all [allowed]), by exact bl⟩
 ·go_enter Tryz.func62, Tryz.ntmps62
  go_wp2_with (first
   | (go_at_call 90; refine (l6Kind_any _ _).mono ?_; rintro r w1 ⟨rfl, rfl⟩)
   | (go_at_call 53; refine (specWireOf_any _ _).mono ?_; rintro r w1 ⟨rfl, hb1⟩; obtain ⟨hc1, hf1⟩ := bcell hb1; have hz1 := hb1.size; (try simp only [World.size_alloc, World.size_setCell, World.size_drew] at hz1); have hy1_0 : w.heap.size < w1.heap.size := by omega)
   | (go_at_call 74; refine (specRuns_any ⟨fn, fk, fr, fp, fm⟩ _).mono ?_; rintro r w2 ⟨rfl, hb2⟩; obtain ⟨hc2, hf2⟩ := bcell hb2; have hz2 := hb2.size; (try simp only [World.size_alloc, World.size_setCell, World.size_drew] at hz2); have hy2_0 : w.heap.size < w2.heap.size := by omega))
  all_goals
   go_ret
   exact ⟨ret_bool (by simp_all [allowed]), by exact bl⟩
def sameU (u v : Ut) : Bool := decide (u = v)
theorem run_eql_ut (a b c a' b' c' : Int) (w : World) :
  (binOp .eql 36 (.agg #[.int .i64 a, .int .i64 b, .int .i64 c]) (.agg #[.int .i64 a', .int .i64 b', .int .i64 c'])).run Tryz.prog w = .ok (.bool (sameU ⟨a, b, c⟩ ⟨a', b', c'⟩)) w := by
 simp [go_sem, sameU]
 by_cases h1 : a = a' <;> by_cases h2 : b = b' <;> by_cases h3 : c = c' <;> simp [h1, h2, h3]
def utfOk (u : Ut) : Bool := sameU u ⟨0, 0, 0⟩ || (sameU u ⟨1, 128, 191⟩ || (sameU u ⟨2, 128, 191⟩ || (sameU u ⟨3, 128, 191⟩ || (sameU u ⟨2, 160, 191⟩ || (sameU u ⟨2, 128, 159⟩ || (sameU u ⟨3, 144, 191⟩ || sameU u ⟨3, 128, 143⟩))))))
set_option maxHeartbeats 2000000 in
theorem specUtfOk_any (u : Ut) (w : World) : Calls Tryz.prog 68 #[u.val] w fun r w' => r = .returned (.bool (utfOk u)) ∧ Below w.heap.size w w' := by
 obtain ⟨a, b, c⟩ := u
 have hne := run_eql_ut
 go_enter Tryz.func68, Tryz.ntmps68
 go_wp2_with (first | (go_at_call 51; refine (l1In_any _ _ _ _).mono ?_; rintro r w1 ⟨rfl, rfl⟩))
 all_goals (go_ret; refine ⟨ret_bool ?_, by exact bl⟩; first | (simp_all [utfOk, sameU, inB]; done) | (simp_all [utfOk, sameU, inB]; rw [Bool.eq_iff_iff]; simp; try omega))
def scanOk (b h : Int) : Bool := inB h 0 9 && decide (b / 2 ^ (7 * h.toNat) = 0)
theorem specScanOk_any (b h : Int) (w : World) : Calls Tryz.prog 109 #[.agg #[.int .u64 b, .int .i64 h]] w fun r w' => r = .returned (.bool (scanOk b h)) ∧ Below w.heap.size w w' := by
 cases hh : inB h 0 9
 ·go_enter Tryz.func109, Tryz.ntmps109
  go_wp2_with (first | (go_at_call 51; refine (l1In_any _ _ _ _).mono ?_; rintro r w1 ⟨rfl, rfl⟩))
  go_ret
  exact ⟨ret_bool (by simp [scanOk, hh]), by exact bl⟩
 ·obtain ⟨k, rfl⟩ := Int.eq_ofNat_of_zero_le (show 0 ≤ h by simp only [inB, decide_eq_true_eq] at hh; omega)
  have hk : k < 10 := by simp only [inB, decide_eq_true_eq] at hh; omega
  rcases ten_nat' hk with rfl | rfl | rfl | rfl | rfl | rfl | rfl | rfl | rfl | rfl
  all_goals
   clear hk hh
   go_enter Tryz.func109, Tryz.ntmps109
   go_wp2_with (first | (go_at_call 51; refine (l1In_any _ _ _ _).mono ?_; rintro r w1 ⟨rfl, rfl⟩))
   go_ret
   exact ⟨ret_bool (by simp [scanOk, inB]; try (rw [Bool.eq_iff_iff]; simp)), by exact bl⟩
end Go.Proofs.YtabdjimjelfbfaaGreat
namespace Go.Proofs.YtabdjimjelfbfaaGreat
set_option linter.unusedSimpArgs false
set_option linter.unusedVariables false
open Go.ChangeShapes Go.WideShapes Go.ChangeAt Go.RowKit
theorem toList_nil_iff (t : ByteArray) : t.toList = [] ↔ t = ⟨#[]⟩ := by
 rw [ByteArray.toList_eq]
 constructor
 ·intro h; obtain ⟨⟨l⟩⟩ := t; simp at h; subst h; rfl
 ·rintro rfl; rfl
theorem isEmpty_iff (t : ByteArray) : t.toList.isEmpty = decide (t = ⟨#[]⟩) := by
 rw [Bool.eq_iff_iff]; simp [List.isEmpty_iff, toList_nil_iff]
def bareE (e : Ev) : Ev :=
 {kind := e.kind
  field := if e.kind = 2 ∨ e.kind = 3 ∨ e.kind = 6 then e.field else 0
  bits := if e.kind = 2 then e.bits else 0
  len := if e.kind = 1 ∨ e.kind = 3 ∨ e.kind = 6 then e.len else 0
  text := if e.kind = 4 then e.text else ⟨#[]⟩
  code := if e.kind = 10 then e.code else 0
  at_ := if e.kind = 9 ∨ e.kind = 10 then e.at_ else 0 }
def tailOk (e : Ev) : Bool :=
 if e.kind = 2 ∨ e.kind = 3 ∨ e.kind = 6 then inB e.field 1 536870911 else if e.kind = 4 then !e.text.toList.isEmpty else if e.kind = 10 then decide (1 ≤ e.code) else true
def eventOk (e : Ev) : Bool := inB e.kind 1 10 && decide (e = bareE e) && decide (0 ≤ e.len) && decide (0 ≤ e.at_) && tailOk e
theorem kinds (k : Int) : k = 1 ∨ k = 2 ∨ k = 3 ∨ k = 4 ∨ k = 5 ∨ k = 6 ∨ k = 7 ∨ k = 8 ∨ k = 9 ∨ k = 10 ∨ inB k 1 10 = false := by
 by_cases h : inB k 1 10 = true
 ·simp only [inB, decide_eq_true_eq] at h; omega
 ·simp at h; simp [h]
set_option maxHeartbeats 4000000 in
theorem specEventOk_any (e : Ev) (w : World) : Calls Tryz.prog 71 #[e.val] w fun r w' => r = .returned (.bool (eventOk e)) ∧ Below w.heap.size w w' := by
 obtain ⟨k, f, b, l, t, c, a⟩ := e
 rcases kinds k with rfl | rfl | rfl | rfl | rfl | rfl | rfl | rfl | rfl | rfl | hk
 all_goals
  go_enter Tryz.func71, Tryz.ntmps71
  go_wp2_with (first | (go_at_call 51; refine (l1In_any _ _ _ _).mono ?_; rintro r w1 ⟨rfl, rfl⟩))
  all_goals
   go_ret
   refine ⟨ret_bool ?_, by exact bl⟩
   first
   | (simp_all [eventOk, bareE, tailOk, toList_nil_iff, isEmpty_iff]; done)
   | (simp_all [eventOk, bareE, tailOk, toList_nil_iff, isEmpty_iff]; intros; omega)
end Go.Proofs.YtabdjimjelfbfaaGreat
namespace Go.Proofs.YtabdjimjelfbfaaGreat
set_option linter.unusedSimpArgs false
set_option linter.unusedVariables false
open Go.ChangeShapes Go.WideShapes Go.ChangeAt Go.RowKit Go.BigFrame
theorem wpList_load_want {P : Program} {ops : Array Oper} {rest : List Oper} {op : Oper} {a : Act} {w : World} {Q : Exit → Act → World → Prop} (ty : TypeId) (x : Operand) (ho : op.op = .load ty x) (hw : Region.wanted op (yielded ops a.tmps) = true)
  (b o : Nat) (hx : a.eval x = .pointer (some ⟨b, o, none⟩)) (cs : List Value) (d : TypeDesc) (hc : w.rangeAt b o cs)
  (hu : P.underlying ty = some d) (hd : d.isRow = true) (hi : (P.info? ty).map (·.size) = some cs.length)
  (h : wpList P ops Q rest (a.put op.dst (.agg cs.toArray)) w) : wpList P ops Q (op :: rest) a w :=
 wpList_step fun K hK => by rw [if_pos hw]; exact wp_load_mid ty x ho b o hx cs d hc hu hd hi (hK _ _ h)
def topL (ls : List Lvl) : Int := match ls.getLast? with
 | none => 0
 | some l => l.left
theorem topL_snoc (ds : List Lvl) (l : Lvl) : topL (ds ++ [l]) = l.left := by simp [topL]
def widthD (d : Dc) : Int := if d.mode = 5 then widthOf d.wire else if d.mode = 8 then widthOf (wireOf d.field.kind) else 0
def known (f : Fld) (xs : List Shp) : Bool := (List.range xs.length).any fun i => decide (fieldAt xs i f.number = (f, true))
def lvlOk (n : Nat) (l : Lvl) : Bool := inB l.msg 0 (n - 1) && inB l.left 0 2000
set_option maxRecDepth 100000 in
theorem specTop_any (d : Dc) (a : Option Addr) (cap n : Nat) (xs : List Shp) (sa : Option Addr) (scap m : Nat) (ls : List Lvl) (w : World) (h : Shs w a xs) (h' : Lvls w sa ls) (hx : xs.length = n) (hl : ls.length = m) (hn : n ≤ 1048576) (hm : fldSum xs ≤ 1048576) (hm' : m ≤ 1048576) :
  Calls Tryz.prog 73 #[d.val (.slice a n cap) (.slice sa m scap)] w fun r w' => r = .returned (.int .i64 (topL ls)) ∧ Below w.heap.size w w' := by
 rcases List.eq_nil_or_concat ls with rfl | ⟨ds, l, rfl⟩
 ·simp only [List.length_nil] at hl
  subst hl
  clear hx
  go_enter Tryz.func73, Tryz.ntmps73
  go_wp2
  go_ret
  exact ⟨rfl, by exact bl⟩
 ·rw [List.concat_eq_append] at h' hl ⊢
  obtain ⟨p, hp⟩ : ∃ p, ds.length = p := ⟨_, rfl⟩
  rw [List.length_append, hp] at hl
  obtain rfl : m = p + 1 := hl.symm
  obtain ⟨b, off, rfl, hlb, c0, c1⟩ := Lvls.at h' (k := p) (e := l) (by rw [List.getElem?_append_right (by omega), hp]; simp)
  rw [topL_snoc]
  clear hx hl h' hp
  go_enter Tryz.func73, Tryz.ntmps73
  go_wp2
  go_ret
  exact ⟨rfl, by exact bl⟩
set_option maxRecDepth 100000 in
theorem specWidthD_any (d : Dc) (a : Option Addr) (cap n : Nat) (xs : List Shp) (sa : Option Addr) (scap m : Nat) (ls : List Lvl) (w : World) (h : Shs w a xs) (h' : Lvls w sa ls) (hx : xs.length = n) (hl : ls.length = m) (hn : n ≤ 1048576) (hm : fldSum xs ≤ 1048576) (hm' : m ≤ 1048576) :
  Calls Tryz.prog 108 #[d.val (.slice a n cap) (.slice sa m scap)] w fun r w' => r = .returned (.int .i64 (widthD d)) ∧ Below w.heap.size w w' := by
 clear hx hl
 by_cases h5 : d.mode = 5
 ·have hr : widthD d = widthOf d.wire := by simp [widthD, h5]
  rw [hr]
  go_enter Tryz.func108, Tryz.ntmps108
  go_wp2_with (first
   | (go_at_call 63; refine (specWidthOf_any _ _).mono ?_; rintro r w1 ⟨rfl, rfl⟩))
  go_ret
  exact ⟨rfl, by exact bl⟩
 ·by_cases h8 : d.mode = 8
  ·have hr : widthD d = widthOf (wireOf d.field.kind) := by simp [widthD, h8]
   rw [hr]
   go_enter Tryz.func108, Tryz.ntmps108
   go_wp2_with (first
    | (go_at_call 63; refine (specWidthOf_any _ _).mono ?_; rintro r w1 ⟨rfl, rfl⟩)
    | (go_at_call 53; refine (specWireOf_any _ _).mono ?_; rintro r w1 ⟨rfl, hb1⟩; obtain ⟨hc1, hf1⟩ := bcell hb1; have hz1 := hb1.size; (try simp only [World.size_alloc, World.size_setCell, World.size_drew] at hz1); have hy1_0 : w.heap.size < w1.heap.size := by omega))
   go_ret
   exact ⟨rfl, by exact bl⟩
  ·have hr : widthD d = 0 := by simp [widthD, h5, h8]
   rw [hr]
   go_enter Tryz.func108, Tryz.ntmps108
   go_wp2
   go_ret
   exact ⟨rfl, by exact bl⟩
set_option maxRecDepth 100000 in
theorem implTop_any (d : Dc) (a : Option Addr) (cap n : Nat) (xs : List Shp) (sa : Option Addr) (scap m : Nat) (ls : List Lvl) (w : World) (h : Shs w a xs) (h' : Lvls w sa ls) (hx : xs.length = n) (hl : ls.length = m) (hn : n ≤ 1048576) (hm : fldSum xs ≤ 1048576) (hm' : m ≤ 1048576) :
  Calls Tryz.prog 96 #[d.val (.slice a n cap) (.slice sa m scap)] w fun r w' => r = .returned (.int .i64 (topL ls)) ∧ Below w.heap.size w w' := by
 rcases List.eq_nil_or_concat ls with rfl | ⟨ds, l, rfl⟩
 ·simp only [List.length_nil] at hl
  subst hl
  clear hx
  go_enter Tryz.func96, Tryz.ntmps96
  go_wp2
  go_ret
  exact ⟨rfl, by exact bl⟩
 ·rw [List.concat_eq_append] at h' hl ⊢
  obtain ⟨p, hp⟩ : ∃ p, ds.length = p := ⟨_, rfl⟩
  rw [List.length_append, hp] at hl
  obtain rfl : m = p + 1 := hl.symm
  obtain ⟨b, off, rfl, hlb, c0, c1⟩ := Lvls.at h' (k := p) (e := l) (by rw [List.getElem?_append_right (by omega), hp]; simp)
  rw [topL_snoc]
  clear hx hl h' hp
  go_enter Tryz.func96, Tryz.ntmps96
  go_wp2
  go_ret
  exact ⟨rfl, by exact bl⟩
end Go.Proofs.YtabdjimjelfbfaaGreat
namespace Go.Proofs.YtabdjimjelfbfaaGreat
open Go.ChangeShapes Go.WideShapes Go.ChangeAt Go.RowKit Go.BigFrame
section
variable {ops : Array Oper} {rest : List Oper} {op : Oper} {a : Act} {w : World} {Q : Exit → Act → World → Prop} {x y : Operand}
theorem wlw (b : Nat) (cs : List Value) (hc : w.rangeAt b 0 cs) (h : wpList Tryz.prog ops Q rest (a.put op.dst (.agg cs.toArray)) w) (ho : op.op = .load 40 x := by rfl) (hw : Region.wanted op (yielded ops a.tmps) = true := by rfl) (hx : a.eval x = .pointer (some ⟨b, 0, none⟩) := by rfl) (hi : cs.length = 27 := by rfl) : wpList Tryz.prog ops Q (op :: rest) a w :=
 wpList_load_want 40 x ho hw b 0 hx cs _ hc Tryz.underlying40 rfl (by rw [size_Dec, hi]) h
theorem wlb (b : Nat) (cs : List Value) (h : wpList Tryz.prog ops Q rest (a.put op.dst (.agg cs.toArray)) w) (ho : op.op = .load 40 x := by rfl) (hw : Region.wanted op (yielded ops a.tmps) = true := by rfl) (hx : a.eval x = .pointer (some ⟨b, 0, none⟩) := by rfl) (hc : w.rangeAt b 0 cs := by exact range_of_cells (by assumption)) (hi : cs.length = 27 := by rfl) : wpList Tryz.prog ops Q (op :: rest) a w :=
 wpList_load_want 40 x ho hw b 0 hx cs _ hc Tryz.underlying40 rfl (by rw [size_Dec, hi]) h
end
end Go.Proofs.YtabdjimjelfbfaaGreat
namespace Go.Proofs.YtabdjimjelfbfaaGreat
set_option linter.unusedSimpArgs false
set_option linter.unusedVariables false
open Go.ChangeShapes Go.WideShapes Go.ChangeAt Go.RowKit Go.BigFrame
def sameF (f g : Fld) : Bool := decide (f = g)
theorem run_neq_fld (a b e a' b' e' : Int) (p q p' q' : Bool) (w : World) :
  (binOp .neq 34 (.agg #[.int .i64 a, .int .i64 b, .bool p, .bool q, .int .i64 e]) (.agg #[.int .i64 a', .int .i64 b', .bool p', .bool q', .int .i64 e'])).run Tryz.prog w = .ok (.bool (!sameF ⟨a, b, p, q, e⟩ ⟨a', b', p', q', e'⟩)) w := by
 simp [go_sem, sameF]
 by_cases h1 : a = a' <;> by_cases h2 : b = b' <;> by_cases h3 : p = p' <;> by_cases h4 : q = q' <;> by_cases h5 : e = e' <;> simp [h1, h2, h3, h4, h5]
theorem run_eql_fld (a b e a' b' e' : Int) (p q p' q' : Bool) (w : World) :
  (binOp .eql 34 (.agg #[.int .i64 a, .int .i64 b, .bool p, .bool q, .int .i64 e]) (.agg #[.int .i64 a', .int .i64 b', .bool p', .bool q', .int .i64 e'])).run Tryz.prog w = .ok (.bool (sameF ⟨a, b, p, q, e⟩ ⟨a', b', p', q', e'⟩)) w := by
 simp [go_sem, sameF]
 by_cases h1 : a = a' <;> by_cases h2 : b = b' <;> by_cases h3 : p = p' <;> by_cases h4 : q = q' <;> by_cases h5 : e = e' <;> simp [h1, h2, h3, h4, h5]
theorem ne_of_at {α : Type} [DecidableEq α] {xs ys : List α} {k : Nat} {e f : α} (he : xs[k]? = some e) (hf : ys[k]? = some f) (h : ¬ e = f) : decide (xs = ys) = false := by
 simp only [decide_eq_false_iff_not]; rintro rfl; rw [he] at hf; simp at hf; exact h hf
theorem take_same {α : Type} {xs ys : List α} {k : Nat} {e : α} (h : xs.take k = ys.take k) (he : xs[k]? = some e) (hf : ys[k]? = some e) : xs.take (k + 1) = ys.take (k + 1) := by
 rw [List.take_add_one, List.take_add_one, h, he, hf]
theorem take_end {α : Type} [DecidableEq α] {xs ys : List α} {k : Nat} (h : xs.take k = ys.take k) (h1 : xs.length ≤ k) (h2 : ys.length ≤ k) : decide (xs = ys) = true := by
 rw [List.take_of_length_le h1, List.take_of_length_le h2] at h; simp [h]
set_option maxHeartbeats 2000000 in
theorem slicesEqualFld_any (a a' : Option Addr) (cap cap' n n' : Nat) (xs ys : List Fld) (w : World) (h : Flds w a xs) (h' : Flds w a' ys) (hx : xs.length = n) (hy : ys.length = n') (hn : n ≤ 1048576) (hn' : n' ≤ 1048576) :
  Calls Tryz.prog 89 #[.slice a n cap, .slice a' n' cap'] w fun r w' => r = .returned (.bool (decide (xs = ys))) ∧ Below w.heap.size w w' := by
 have HX := Lib.hid hx; clear hx
 have HY := Lib.hid hy; clear hy
 by_cases hl : n = n'
 ·subst hl
  go_enter Tryz.func89, Tryz.ntmps89
  go_wp2
  go_loopw [4, 5, 13] (fun t i j wr => ∃ k : Nat, k ≤ n ∧ j = .int .i64 k ∧ t = .bool false ∧ Hid (xs.take k = ys.take k) ∧ Below w.heap.size w wr) (fun _ _ i _ => n - (intOf i).toNat)
  case atStart => exact ⟨0, Nat.zero_le _, rfl, rfl, Lib.hid rfl, Below.refl _ _⟩
  case round =>
   obtain ⟨k, hk, rfl, rfl, HT, hb⟩ := hrel
   have hz := hb.size
   by_cases hlt : k < n
   ·obtain ⟨e, he, _⟩ := at_lt (xs := xs) (k := k) (by rw [HX.out]; exact hlt)
    obtain ⟨f, hf, _⟩ := at_lt (xs := ys) (k := k) (by rw [HY.out]; exact hlt)
    have HE := Lib.hid he
    have HF := Lib.hid hf
    obtain ⟨b, off, rfl, hlb, c0, c1, c2, c3, c4⟩ := Flds.at (h.below hb (Nat.le_refl _)) he
    obtain ⟨b', off', rfl, hlb', d0, d1, d2, d3, d4⟩ := Flds.at (h'.below hb (Nat.le_refl _)) hf
    clear he hf
    by_cases hef : e = f
    ·have hd : sameF e f = true := by simp [sameF, hef]
     have HD := Lib.hid hef; clear hef
     have HT2 := Lib.hid (take_same HT.out HE.out (by rw [HD.out]; exact HF.out))
     have hne := run_neq_fld
     go_wp2_with fail
     (refine wp_region_ext (by kernel_rfl) (by kernel_rfl) ?_; (repeat (go_big_quiet_step (fail))); refine wpQuiet_nil ?_; intro w1 hb1; obtain ⟨hc1, hf1⟩ := bcell hb1; have hz1 := hb1.size; (try simp only [World.size_alloc, World.size_setCell, World.size_drew] at hz1))
     go_wp2
     go_roundw
     case rel => exact ⟨k + 1, by omega, by go_num, rfl, HT2, by exact bl⟩
     case measure => simp [intOf]; omega
    ·have hd : sameF e f = false := by simp [sameF, hef]
     have HS := Lib.hid (ne_of_at HE.out HF.out hef)
     clear hef
     have hne := run_neq_fld
     go_wp2_with fail
     (refine wp_region_ext (by kernel_rfl) (by kernel_rfl) ?_; (repeat (go_big_quiet_step (fail))); refine wpQuiet_nil ?_; intro w1 hb1; obtain ⟨hc1, hf1⟩ := bcell hb1; have hz1 := hb1.size; (try simp only [World.size_alloc, World.size_setCell, World.size_drew] at hz1))
     go_wp2
     go_ret
     exact ⟨ret_bool HS.out.symm, by exact bl⟩
   ·have HS := Lib.hid (take_end HT.out (by rw [HX.out]; omega) (by rw [HY.out]; omega))
    go_wp2
    go_ret
    exact ⟨ret_bool HS.out.symm, hb⟩
 ·have HS := Lib.hid (show decide (xs = ys) = false by
   simp only [decide_eq_false_iff_not]; intro hxy; subst hxy; exact hl (HX.out.symm.trans HY.out))
  have hl' : ((n : Int) != (n' : Int)) = true := by simp; omega
  go_enter Tryz.func89, Tryz.ntmps89
  go_wp2
  go_ret
  exact ⟨ret_bool HS.out.symm, Below.refl _ _⟩
set_option maxHeartbeats 2000000 in
theorem sameSchema1_any (x y : Int) (fs gs : List Fld) (a a' : Option Addr) (n n' cap cap' : Nat) (w : World) (h : Flds w a fs) (h' : Flds w a' gs) (hx : fs.length = n) (hy : gs.length = n') (hn : n ≤ 1048576) (hn' : n' ≤ 1048576) :
  Calls Tryz.prog 88 #[.agg #[.int .i64 x, .slice a n cap], .agg #[.int .i64 y, .slice a' n' cap']] w fun r w' => r = .returned (.bool (x == y && decide (fs = gs))) ∧ Below w.heap.size w w' := by
 have HX := Lib.hid hx; clear hx
 have HY := Lib.hid hy; clear hy
 have HS1 := Lib.hid h; clear h
 have HS2 := Lib.hid h'; clear h'
 obtain ⟨q, hq⟩ : ∃ q, decide (fs = gs) = q := ⟨_, rfl⟩
 rw [hq]
 have HQ := Lib.hid hq; clear hq
 by_cases hxy : x = y
 ·subst hxy
  go_enter Tryz.func88, Tryz.ntmps88
  go_wp2_with fail
  refine (slicesEqualFld_any _ _ _ _ _ _ fs gs _ (Sl.keep HS1.out bl) (Sl.keep HS2.out bl) HX.out HY.out hn hn').mono ?_
  rintro r w1 ⟨rfl, hb1⟩
  rw [HQ.out]
  go_wp2
  go_ret
  exact ⟨ret_bool (by simp), by exact bl⟩
 ·have hxy' : (x == y) = false := by simp [hxy]
  clear hxy
  go_enter Tryz.func88, Tryz.ntmps88
  go_wp2
  go_ret
  exact ⟨ret_bool (by simp [hxy']), by exact bl⟩
theorem shp_eq (e f : Shp) : (e.id == f.id && decide (e.flds = f.flds)) = decide (e = f) := by
 obtain ⟨i, x⟩ := e; obtain ⟨j, y⟩ := f
 rw [Bool.eq_iff_iff]; simp
set_option maxHeartbeats 2000000 in
theorem equalFuncShp_any (a a' : Option Addr) (cap cap' n n' : Nat) (xs ys : List Shp) (w : World) (h : Shs w a xs) (h' : Shs w a' ys) (hx : xs.length = n) (hy : ys.length = n') (hn : n ≤ 1048576) (hn' : n' ≤ 1048576) (hm : fldSum xs ≤ 1048576) (hm' : fldSum ys ≤ 1048576) :
  Calls Tryz.prog 87 #[.slice a n cap, .slice a' n' cap', .func (.func 88) #[] #[]] w fun r w' => r = .returned (.bool (decide (xs = ys))) ∧ Below w.heap.size w w' := by
 have HX := Lib.hid hx; clear hx
 have HY := Lib.hid hy; clear hy
 by_cases hl : n = n'
 ·subst hl
  go_enter Tryz.func87, Tryz.ntmps87
  go_wp2
  go_loopw [6, 17] (fun t j wr => ∃ k : Nat, k ≤ n ∧ j = .int .i64 k ∧ t = .bool false ∧ Hid (xs.take k = ys.take k) ∧ Below w.heap.size w wr) (fun _ i _ => n - (intOf i).toNat)
  case atStart => exact ⟨0, Nat.zero_le _, rfl, rfl, Lib.hid rfl, Below.refl _ _⟩
  case round =>
   obtain ⟨k, hk, rfl, rfl, HT, hb⟩ := hrel
   have hz := hb.size
   by_cases hlt : k < n
   ·obtain ⟨e, he, _⟩ := at_lt (xs := xs) (k := k) (by rw [HX.out]; exact hlt)
    obtain ⟨f, hf, _⟩ := at_lt (xs := ys) (k := k) (by rw [HY.out]; exact hlt)
    have HE := Lib.hid he
    have HF := Lib.hid hf
    have hne := Nat.le_trans (fldSum_ge he) hm
    have hnf := Nat.le_trans (fldSum_ge hf) hm'
    obtain ⟨b, off, a1, cap1, rfl, hlb, c0, c1, hs1⟩ := h.below hb (Nat.le_refl _) k e he
    obtain ⟨b', off', a2, cap2, rfl, hlb', d0, d1, hs2⟩ := h'.below hb (Nat.le_refl _) k f hf
    clear he hf
    have HS1 := Lib.hid hs1; clear hs1
    have HS2 := Lib.hid hs2; clear hs2
    have HQ := Lib.hid (shp_eq e f)
    by_cases hef : e = f
    ·have HD := Lib.hid hef
     have HT2 := Lib.hid (take_same HT.out HE.out (by rw [HD.out]; exact HF.out))
     have HQ2 := Lib.hid (show (e.id == f.id && decide (e.flds = f.flds)) = true by rw [HQ.out]; simp [hef])
     clear hef
     go_wp2_with fail
     refine (sameSchema1_any _ _ e.flds f.flds _ _ _ _ _ _ _ (Sl.keep HS1.out bl) (Sl.keep HS2.out bl) rfl rfl hne hnf).mono ?_
     rintro r w1 ⟨rfl, hb1⟩
     have hz1 := hb1.size
     rw [HQ2.out]
     go_wp2
     go_roundw
     case rel => exact ⟨k + 1, by omega, by go_num, rfl, HT2, by exact bl⟩
     case measure => simp [intOf]; omega
    ·have HS := Lib.hid (ne_of_at HE.out HF.out hef)
     have HQ2 := Lib.hid (show (e.id == f.id && decide (e.flds = f.flds)) = false by rw [HQ.out]; simp [hef])
     clear hef
     go_wp2_with fail
     refine (sameSchema1_any _ _ e.flds f.flds _ _ _ _ _ _ _ (Sl.keep HS1.out bl) (Sl.keep HS2.out bl) rfl rfl hne hnf).mono ?_
     rintro r w1 ⟨rfl, hb1⟩
     rw [HQ2.out]
     go_wp2
     go_ret
     exact ⟨ret_bool HS.out.symm, by exact bl⟩
   ·have HS := Lib.hid (take_end HT.out (by rw [HX.out]; omega) (by rw [HY.out]; omega))
    go_wp2
    go_ret
    exact ⟨ret_bool HS.out.symm, hb⟩
 ·have HS := Lib.hid (show decide (xs = ys) = false by
   simp only [decide_eq_false_iff_not]; intro hxy; subst hxy; exact hl (HX.out.symm.trans HY.out))
  have hl' : ((n : Int) != (n' : Int)) = true := by simp; omega
  go_enter Tryz.func87, Tryz.ntmps87
  go_wp2
  go_ret
  exact ⟨ret_bool HS.out.symm, Below.refl _ _⟩
theorem implSameSchema_any (a a' : Option Addr) (cap cap' n n' : Nat) (xs ys : List Shp) (w : World) (h : Shs w a xs) (h' : Shs w a' ys) (hx : xs.length = n) (hy : ys.length = n') (hn : n ≤ 1048576) (hn' : n' ≤ 1048576) (hm : fldSum xs ≤ 1048576) (hm' : fldSum ys ≤ 1048576) :
  Calls Tryz.prog 49 #[.agg #[.slice a n cap], .agg #[.slice a' n' cap']] w fun r w' => r = .returned (.bool (decide (xs = ys))) ∧ Below w.heap.size w w' := by
 have HX := Lib.hid hx; clear hx
 have HY := Lib.hid hy; clear hy
 have HS1 := Lib.hid h; clear h
 have HS2 := Lib.hid h'; clear h'
 obtain ⟨q, hq⟩ : ∃ q, decide (xs = ys) = q := ⟨_, rfl⟩
 rw [hq]
 have HQ := Lib.hid hq; clear hq
 go_enter Tryz.func49, Tryz.ntmps49
 go_wp2_with fail
 refine (equalFuncShp_any _ _ _ _ _ _ xs ys _ (HS1.out.keep bl) (HS2.out.keep bl) HX.out HY.out hn hn' hm hm').mono ?_
 rintro r w1 ⟨rfl, hb1⟩
 rw [HQ.out]
 go_wp2
 go_ret
 exact ⟨rfl, by exact bl⟩
set_option maxHeartbeats 4000000 in
theorem specSameSchema_any (a a' : Option Addr) (cap cap' n n' : Nat) (xs ys : List Shp) (w : World) (h : Shs w a xs) (h' : Shs w a' ys) (hx : xs.length = n) (hy : ys.length = n') (hn : n ≤ 1048576) (hn' : n' ≤ 1048576) (hm : fldSum xs ≤ 1048576) (hm' : fldSum ys ≤ 1048576) :
  Calls Tryz.prog 41 #[.agg #[.slice a n cap], .agg #[.slice a' n' cap']] w fun r w' => r = .returned (.bool (decide (xs = ys))) ∧ Below w.heap.size w w' := by
 have HX := Lib.hid hx; clear hx
 have HY := Lib.hid hy; clear hy
 by_cases hl : n = n'
 ·subst hl
  go_enter Tryz.func41, Tryz.ntmps41
  go_wp2
  have hbx0 := Lib.hid (box_cells (heap_nth1 w (.cells #[.slice a n cap] 26) (.cells #[.slice a' n cap'] 26)))
  go_loopw [4, 5] (fun t j wr => ∃ k : Nat, k ≤ n ∧ j = .int .i64 k ∧ t = .bool false ∧ Hid (xs.take k = ys.take k) ∧ Below w.heap.size w wr ∧ (∀ i, wr.cell? ⟨w.heap.size, i, none⟩ = (#[.slice a n cap] : Array Value)[i]?) ∧ (∀ i, wr.cell? ⟨w.heap.size + 1, i, none⟩ = (#[.slice a' n cap'] : Array Value)[i]?) ∧ w.heap.size + 1 < wr.heap.size) (fun _ i _ => n - (intOf i).toNat)
  case atStart => exact ⟨0, Nat.zero_le _, rfl, rfl, Lib.hid rfl, by exact bl, hbx0.out, box_cells (heap_new1 w _ _), by simp⟩
  case round =>
   obtain ⟨k, hk, rfl, rfl, HT, hb, kA, kB, hzz⟩ := hrel
   have hz := hb.size
   by_cases hlt : k < n
   ·obtain ⟨e, he, _⟩ := at_lt (xs := xs) (k := k) (by rw [HX.out]; exact hlt)
    obtain ⟨f, hf, _⟩ := at_lt (xs := ys) (k := k) (by rw [HY.out]; exact hlt)
    have HE := Lib.hid he
    have HF := Lib.hid hf
    have hne := Nat.le_trans (fldSum_ge he) hm
    have hnf := Nat.le_trans (fldSum_ge hf) hm'
    obtain ⟨b, off, a1, cap1, rfl, hlb, c0, c1, hs1⟩ := h.below hb (Nat.le_refl _) k e he
    obtain ⟨b', off', a2, cap2, rfl, hlb', d0, d1, hs2⟩ := h'.below hb (Nat.le_refl _) k f hf
    clear he hf
    have HS1 := Lib.hid hs1; clear hs1
    have HS2 := Lib.hid hs2; clear hs2
    by_cases hid : e.id = f.id
    ·by_cases hlen : e.flds.length = f.flds.length
     ·have hid' : (e.id != f.id) = false := by simp [hid]
      have hlen' : ((e.flds.length : Int) != (f.flds.length : Int)) = false := by simp [hlen]
      have HID := Lib.hid hid; clear hid
      have HLEN := Lib.hid hlen; clear hlen
      go_wp2
      obtain ⟨wo, rfl⟩ : ∃ wo : World, wo = wr := ⟨_, rfl⟩
      have hbx1 := Lib.hid (box_cells (heap_nth1 wo (.cells #[.int .i64 e.id, .slice a1 e.flds.length cap1] 77) (.cells #[.int .i64 f.id, .slice a2 f.flds.length cap2] 77)))
      have hbx2 := Lib.hid (box_cells (heap_new1 wo (.cells #[.int .i64 e.id, .slice a1 e.flds.length cap1] 77) (.cells #[.int .i64 f.id, .slice a2 f.flds.length cap2] 77)))
      go_loopw [4, 8] (fun t j wr => ∃ q : Nat, q ≤ e.flds.length ∧ j = .int .i64 q ∧ t = .bool false ∧ Hid (e.flds.take q = f.flds.take q) ∧ Below wo.heap.size wo wr ∧ (∀ i, wr.cell? ⟨wo.heap.size, i, none⟩ = (#[.int .i64 e.id, .slice a1 e.flds.length cap1] : Array Value)[i]?) ∧ (∀ i, wr.cell? ⟨wo.heap.size + 1, i, none⟩ = (#[.int .i64 f.id, .slice a2 f.flds.length cap2] : Array Value)[i]?) ∧ wo.heap.size + 1 < wr.heap.size) (fun _ i _ => e.flds.length - (intOf i).toNat)
      case atStart => exact ⟨0, Nat.zero_le _, rfl, rfl, Lib.hid rfl, by exact bl, hbx1.out, hbx2.out, by simp⟩
      case round =>
       obtain ⟨q, hq, rfl, rfl, HT1, hb1, kC, kD, hzi⟩ := hrel
       have hzi0 : wo.heap.size < wr.heap.size := by omega
       by_cases hqlt : q < e.flds.length
       ·obtain ⟨g, hg, _⟩ := at_lt (xs := e.flds) (k := q) hqlt
        obtain ⟨g', hg', _⟩ := at_lt (xs := f.flds) (k := q) (by rw [← HLEN.out]; exact hqlt)
        have HG := Lib.hid hg
        have HG' := Lib.hid hg'
        have hqlt2 : q < f.flds.length := by rw [← HLEN.out]; exact hqlt
        obtain ⟨p, o, rfl, hp, x0, x1, x2, x3, x4⟩ := Flds.at (Sl.keep HS1.out hb1) hg
        obtain ⟨p', o', rfl, hp', y0, y1, y2, y3, y4⟩ := Flds.at (Sl.keep HS2.out hb1) hg'
        clear hg hg'
        by_cases hgg : g = g'
        ·have hd : sameF g g' = true := by simp [sameF, hgg]
         have HD := Lib.hid hgg; clear hgg
         have HT2 := Lib.hid (take_same HT1.out HG.out (by rw [HD.out]; exact HG'.out))
         have hne := run_neq_fld
         go_wp2_with fail
         (refine wp_region_ext (by kernel_rfl) (by kernel_rfl) ?_; (repeat (go_big_quiet_step (fail))); refine wpQuiet_nil ?_; intro w1 hb1; obtain ⟨hc1, hf1⟩ := bcell hb1; have hz1 := hb1.size; (try simp only [World.size_alloc, World.size_setCell, World.size_drew] at hz1))
         go_wp2
         go_roundw
         case rel => exact ⟨q + 1, by omega, by go_num, rfl, HT2, by exact bl, box_next hb1 (by omega) kC, box_next hb1 (by omega) kD, by omega⟩
         case measure => simp [intOf]; omega
        ·have hd : sameF g g' = false := by simp [sameF, hgg]
         have HS := Lib.hid (ne_of_at HE.out HF.out (by rintro rfl; exact hgg (by have h1 := HG.out; rw [HG'.out] at h1; simpa using h1.symm)))
         clear hgg
         have hne := run_neq_fld
         go_wp2_with fail
         (refine wp_region_ext (by kernel_rfl) (by kernel_rfl) ?_; (repeat (go_big_quiet_step (fail))); refine wpQuiet_nil ?_; intro w1 hb1; obtain ⟨hc1, hf1⟩ := bcell hb1; have hz1 := hb1.size; (try simp only [World.size_alloc, World.size_setCell, World.size_drew] at hz1))
         go_wp2
         go_ret
         exact ⟨ret_bool HS.out.symm, by exact bl⟩
       ·have HEF := Lib.hid (show e = f by
         have h1 := HT1.out
         rw [List.take_of_length_le (by omega), List.take_of_length_le (by have := HLEN.out; omega)] at h1
         obtain ⟨i, x⟩ := e; obtain ⟨j, y⟩ := f; simp only at h1; have h2 := HID.out; simp only at h2; rw [h1, h2])
        have HT2 := Lib.hid (take_same HT.out HE.out (by rw [HEF.out]; exact HF.out))
        have hzi2 := hb1.size
        go_wp2
        go_roundw
        case rel => exact ⟨k + 1, by omega, by go_num, rfl, HT2, by exact bl, box_next hb1 (by omega) kA, box_next hb1 (by omega) kB, by omega⟩
        case measure => simp [intOf]; omega
     ·have hid' : (e.id != f.id) = false := by simp [hid]
      have hlen' : ((e.flds.length : Int) != (f.flds.length : Int)) = true := by simp; omega
      have HS := Lib.hid (ne_of_at HE.out HF.out (by rintro rfl; exact hlen rfl))
      clear hid hlen
      go_wp2
      go_ret
      exact ⟨ret_bool HS.out.symm, by exact bl⟩
    ·have hid' : (e.id != f.id) = true := by simp [hid]
     have HS := Lib.hid (ne_of_at HE.out HF.out (by rintro rfl; exact hid rfl))
     clear hid
     go_wp2
     go_ret
     exact ⟨ret_bool HS.out.symm, by exact bl⟩
   ·have HS := Lib.hid (take_end HT.out (by rw [HX.out]; omega) (by rw [HY.out]; omega))
    go_wp2
    go_ret
    exact ⟨ret_bool HS.out.symm, hb⟩
 ·have HS := Lib.hid (show decide (xs = ys) = false by
   simp only [decide_eq_false_iff_not]; intro hxy; subst hxy; exact hl (HX.out.symm.trans HY.out))
  have hl' : ((n : Int) != (n' : Int)) = true := by simp; omega
  go_enter Tryz.func41, Tryz.ntmps41
  go_wp2
  go_ret
  exact ⟨ret_bool HS.out.symm, by exact bl⟩
theorem known_yes {f : Fld} {xs : List Shp} {k : Nat} (hk : k < xs.length) (h : fieldAt xs k f.number = (f, true)) : known f xs = true := by
 simp only [known, List.any_eq_true, List.mem_range, decide_eq_true_eq]; exact ⟨k, hk, h⟩
theorem known_no {f : Fld} {xs : List Shp} (h : ∀ j : Nat, j < xs.length → ¬ fieldAt xs j f.number = (f, true)) : known f xs = false := by
 simp only [known, List.any_eq_false, List.mem_range, decide_eq_true_eq]; exact h
def fieldIn (f : Fld) (xs : List Shp) : Bool := decide (f = zeroF) || known f xs
theorem sameF_zero (f : Fld) : sameF ⟨f.number, f.kind, f.rep, f.packed, f.msg⟩ ⟨0, 0, false, false, 0⟩ = decide (f = zeroF) := rfl
set_option maxRecDepth 100000 in
set_option maxHeartbeats 2000000 in
theorem specFieldOk_any (d : Dc) (a : Option Addr) (cap n : Nat) (xs : List Shp) (sa : Option Addr) (scap m : Nat) (ls : List Lvl) (w : World) (h : Shs w a xs) (h' : Lvls w sa ls) (hx : xs.length = n) (hl : ls.length = m) (hn : n ≤ 1048576) (hm : fldSum xs ≤ 1048576) (hm' : m ≤ 1048576) :
  Calls Tryz.prog 69 #[d.val (.slice a n cap) (.slice sa m scap)] w fun r w' => r = .returned (.bool (fieldIn d.field xs)) ∧ Below w.heap.size w w' := by
 have HX := Lib.hid hx; clear hx
 have HSs := Lib.hid h; clear h
 have hne := run_eql_fld
 by_cases hz : d.field = zeroF
 ·have hs : sameF ⟨d.field.number, d.field.kind, d.field.rep, d.field.packed, d.field.msg⟩ ⟨0, 0, false, false, 0⟩ = true := by rw [sameF_zero]; simp [hz]
  have HR := Lib.hid (show fieldIn d.field xs = true by simp [fieldIn, hz])
  clear hz hl
  go_enter Tryz.func69, Tryz.ntmps69
  go_wp2
  go_ret
  exact ⟨ret_bool HR.out.symm, by exact bl⟩
 ·have hs : sameF ⟨d.field.number, d.field.kind, d.field.rep, d.field.packed, d.field.msg⟩ ⟨0, 0, false, false, 0⟩ = false := by rw [sameF_zero]; simp [hz]
  have HR := Lib.hid (show fieldIn d.field xs = known d.field xs by simp [fieldIn, hz])
  clear hz hl
  go_enter Tryz.func69, Tryz.ntmps69
  go_wp2_with fail
  go_loopw [3] (fun i wr => ∃ k : Nat, k ≤ n ∧ i = .int .i64 k ∧ Hid (∀ j : Nat, j < k → ¬ fieldAt xs j d.field.number = (d.field, true)) ∧ Below w.heap.size w wr ∧ w.heap.size < wr.heap.size ∧ (∀ i : Nat, wr.cell? ⟨w.heap.size, i, none⟩ = ((Dc.cl d (.slice a n cap) (.slice sa m scap)).toArray : Array Value)[i]?)) (fun i _ => n - (intOf i).toNat)
  case atStart => exact ⟨0, Nat.zero_le _, rfl, Lib.hid (by omega), by exact bl, by simp, box_cells (heap_nth0 w _)⟩
  case round =>
   obtain ⟨k, hk, rfl, HK, hb, hBA, kA⟩ := hrel
   have hz := hb.size
   by_cases hlt : k < n
   ·obtain ⟨⟨g, ok⟩, hg⟩ : ∃ R, fieldAt xs k d.field.number = R := ⟨_, rfl⟩
    go_wp2_with fail
    refine (specFieldAt_any a cap n xs k d.field.number _ (HSs.out.keep bl) HX.out hn hm).mono ?_
    rintro r w1 ⟨rfl, hb1⟩
    have hz1 := hb1.size
    try simp only [World.size_alloc, World.size_setCell, World.size_drew] at hz1
    have hb1b : Below wr.heap.size wr w1 := by exact bl
    have kA_ := box_next hb1b hBA kA; clear kA
    have kA := kA_; clear kA_
    have hBA_ := Nat.lt_of_lt_of_le hBA hb1b.size; clear hBA; have hBA := hBA_; clear hBA_
    clear hb1; have hb1 := hb1b; clear hb1b
    rw [hg]
    have HG := Lib.hid hg; clear hg
    obtain ⟨gn, gk, gr, gp, gm⟩ := g
    cases ok
    ·have HK2 := Lib.hid (show ∀ j : Nat, j < k + 1 → ¬ fieldAt xs j d.field.number = (d.field, true) from fun j hj => by
      by_cases hjk : j < k
      ·exact HK.out j hjk
      ·obtain rfl : j = k := by omega
       rw [HG.out]; simp)
     go_wp2
     go_roundw
     case rel => exact ⟨k + 1, by omega, by go_num, HK2, by exact bl, by simp; omega, box_next (w := w1) bl hBA kA⟩
     case measure => simp [intOf]; omega
    ·cases hs2 : sameF ⟨gn, gk, gr, gp, gm⟩ ⟨d.field.number, d.field.kind, d.field.rep, d.field.packed, d.field.msg⟩
     ·have HK2 := Lib.hid (show ∀ j : Nat, j < k + 1 → ¬ fieldAt xs j d.field.number = (d.field, true) from fun j hj => by
       by_cases hjk : j < k
       ·exact HK.out j hjk
       ·obtain rfl : j = k := by omega
        rw [HG.out]; intro h; simp only [Prod.mk.injEq, and_true] at h; rw [h] at hs2; simp [sameF] at hs2)
      go_wp2
      go_roundw
      case rel => exact ⟨k + 1, by omega, by go_num, HK2, by exact bl, by simp; omega, box_next (w := w1) bl hBA kA⟩
      case measure => simp [intOf]; omega
     ·have HR2 := Lib.hid (show fieldIn d.field xs = true by
       rw [HR.out]
       refine known_yes (k := k) (by rw [HX.out]; exact hlt) ?_
       rw [HG.out]; simp only [sameF, decide_eq_true_eq] at hs2; rw [hs2])
      go_wp2
      go_ret
      exact ⟨ret_bool HR2.out.symm, by exact bl⟩
   ·have HR2 := Lib.hid (show fieldIn d.field xs = false by
     rw [HR.out]; exact known_no (fun j hj => HK.out j (by rw [HX.out] at hj; omega)))
    go_wp2
    go_ret
    exact ⟨ret_bool HR2.out.symm, by exact bl⟩
def stackOk (d : Dc) (n : Nat) (ls : List Lvl) : Bool := ls.all (lvlOk n) && (if d.mode = 1 then decide (ls.length = 0) else if d.mode = 9 then decide ((ls.length : Int) ≤ d.p.deep) else inB ls.length 1 d.p.deep && decide (1 ≤ topL ls))
theorem all_snoc {n : Nat} {ls : List Lvl} {k : Nat} {e : Lvl} (he : ls[k]? = some e) : (ls.take (k + 1)).all (lvlOk n) = ((ls.take k).all (lvlOk n) && lvlOk n e) := by
 rw [List.take_add_one, he, List.all_append]; simp
theorem all_bad {n : Nat} {ls : List Lvl} {k : Nat} {e : Lvl} (he : ls[k]? = some e) (h : lvlOk n e = false) : ls.all (lvlOk n) = false := by
 rw [List.all_eq_false]; exact ⟨e, List.mem_of_getElem? he, by simp [h]⟩
set_option maxRecDepth 100000 in
set_option maxHeartbeats 4000000 in
theorem specStackOk_any (d : Dc) (a : Option Addr) (cap n : Nat) (xs : List Shp) (sa : Option Addr) (scap m : Nat) (ls : List Lvl) (w : World) (h : Shs w a xs) (h' : Lvls w sa ls) (hx : xs.length = n) (hl : ls.length = m) (hn : n ≤ 1048576) (hm : fldSum xs ≤ 1048576) (hm' : m ≤ 1048576) :
  Calls Tryz.prog 70 #[d.val (.slice a n cap) (.slice sa m scap)] w fun r w' => r = .returned (.bool (stackOk d n ls)) ∧ Below w.heap.size w w' := by
 have HL := Lib.hid hl; clear hl
 have HX := Lib.hid hx; clear hx
 have HSs := Lib.hid h; clear h
 have HSl := Lib.hid h'; clear h'
 obtain ⟨R, hR⟩ : ∃ R, stackOk d n ls = R := ⟨_, rfl⟩
 rw [hR]
 have HR := Lib.hid hR; clear hR
 go_enter Tryz.func70, Tryz.ntmps70
 go_wp2_with fail
 go_loopw [4] (fun i wr => ∃ k : Nat, k ≤ m ∧ i = .int .i64 k ∧ Hid ((ls.take k).all (lvlOk n) = true) ∧ Below w.heap.size w wr ∧ w.heap.size < wr.heap.size ∧ (∀ i : Nat, wr.cell? ⟨w.heap.size, i, none⟩ = ((Dc.cl d (.slice a n cap) (.slice sa m scap)).toArray : Array Value)[i]?)) (fun i _ => m - (intOf i).toNat)
 case atStart => exact ⟨0, Nat.zero_le _, rfl, Lib.hid (by simp), by exact bl, by simp, box_cells (heap_nth0 w _)⟩
 case round =>
  obtain ⟨k, hk, rfl, HK, hb, hBA, kA⟩ := hrel
  have hz := hb.size
  by_cases hlt : k < m
  ·obtain ⟨e, he, _⟩ := at_lt (xs := ls) (k := k) (by rw [HL.out]; exact hlt)
   have HE := Lib.hid he
   obtain ⟨b, off, rfl, hlb, c0, c1⟩ := Lvls.at (HSl.out.below hb (Nat.le_refl _)) he
   clear he
   cases h1 : inB e.msg 0 (n - 1)
   ·have HB := Lib.hid (show false = R by rw [← HR.out, stackOk, all_bad HE.out (by simp [lvlOk, h1])]; rfl)
    go_wp2_with fail
    (refine wp_region_ext (by kernel_rfl) (by kernel_rfl) ?_; (repeat (go_big_quiet_step (first | (go_at_call 51; refine Calls.ext_of_same (l1In_any _ _ _ _))))); refine wpQuiet_nil ?_; intro w1 hb1; obtain ⟨hc1, hf1⟩ := bcell hb1; have hz1 := hb1.size; (try simp only [World.size_alloc, World.size_setCell, World.size_drew] at hz1))
    have kA1 := box_next (hb1.mono (Nat.le_refl _)) hBA kA
    go_wp2
    go_ret
    exact ⟨ret_bool HB.out, by exact bl⟩
   ·cases h2 : inB e.left 0 2000
    ·have HB := Lib.hid (show false = R by rw [← HR.out, stackOk, all_bad HE.out (by simp [lvlOk, h2])]; rfl)
     go_wp2_with fail
     (refine wp_region_ext (by kernel_rfl) (by kernel_rfl) ?_; (repeat (go_big_quiet_step (first | (go_at_call 51; refine Calls.ext_of_same (l1In_any _ _ _ _))))); refine wpQuiet_nil ?_; intro w1 hb1; obtain ⟨hc1, hf1⟩ := bcell hb1; have hz1 := hb1.size; (try simp only [World.size_alloc, World.size_setCell, World.size_drew] at hz1))
     have kA1 := box_next (hb1.mono (Nat.le_refl _)) hBA kA
     go_wp2
     go_ret
     exact ⟨ret_bool HB.out, by exact bl⟩
    ·have HK2 := Lib.hid (show (ls.take (k + 1)).all (lvlOk n) = true by rw [all_snoc HE.out, HK.out]; simp [lvlOk, h1, h2])
     go_wp2_with fail
     (refine wp_region_ext (by kernel_rfl) (by kernel_rfl) ?_; (repeat (go_big_quiet_step (first | (go_at_call 51; refine Calls.ext_of_same (l1In_any _ _ _ _))))); refine wpQuiet_nil ?_; intro w1 hb1; obtain ⟨hc1, hf1⟩ := bcell hb1; have hz1 := hb1.size; (try simp only [World.size_alloc, World.size_setCell, World.size_drew] at hz1))
     have kA1 := box_next (hb1.mono (Nat.le_refl _)) hBA kA
     go_wp2
     go_roundw
     case rel => exact ⟨k + 1, by omega, by go_num, HK2, by exact bl, by omega, kA1⟩
     case measure => simp [intOf]; omega
  ·have hall : ls.all (lvlOk n) = true := by have := HK.out; rw [List.take_of_length_le (by rw [HL.out]; omega)] at this; exact this
   have HR2 := Lib.hid (show (if d.mode = 1 then decide (m = 0) else if d.mode = 9 then decide ((m : Int) ≤ d.p.deep) else inB m 1 d.p.deep && decide (1 ≤ topL ls)) = R by rw [← HR.out, stackOk, hall, HL.out]; rfl)
   clear hall HR HK
   by_cases hm1 : d.mode = 1
   ·have HB := Lib.hid (show decide (m = 0) = R by rw [← HR2.out, if_pos hm1])
    go_wp2
    go_ret
    exact ⟨ret_bool (by rw [← HB.out, Bool.eq_iff_iff]; simp), by exact bl⟩
   ·by_cases hm9 : d.mode = 9
    ·have HB := Lib.hid (show decide ((m : Int) ≤ d.p.deep) = R by rw [← HR2.out, if_neg hm1, if_pos hm9])
     clear hm1
     go_wp2
     go_ret
     exact ⟨ret_bool (by rw [← HB.out]), by exact bl⟩
    ·have HB := Lib.hid (show (inB m 1 d.p.deep && decide (1 ≤ topL ls)) = R by rw [← HR2.out, if_neg hm1, if_neg hm9])
     cases hin : inB m 1 d.p.deep
     ·rw [hin] at HB
      go_wp2_with (first | (go_at_call 51; refine (l1In_any _ _ _ _).mono ?_; rintro r w1 ⟨rfl, rfl⟩))
      go_ret
      exact ⟨ret_bool HB.out, by exact bl⟩
     ·rw [hin] at HB
      go_wp2_with fail
      refine (l1In_any _ _ _ _).mono ?_
      rintro r w1 ⟨rfl, rfl⟩
      rw [hin]
      go_wp2_with (first | ((with_reducible refine gl ?_); first | (refine wla w.heap.size (Dc.cl d (.slice a n cap) (.slice sa m scap)) ?_) | (refine wlb w.heap.size (Dc.cl d (.slice a n cap) (.slice sa m scap)) ?_)))
      refine (specTop_any d a cap n xs sa scap m ls _ (HSs.out.keep bl) (Sl.keep HSl.out bl) HX.out HL.out hn hm hm').mono ?_
      rintro r w2 ⟨rfl, hb2⟩
      go_wp2
      go_ret
      exact ⟨ret_bool (by rw [← HB.out]; rfl), by exact bl⟩
def sameS (b h b' h' : Int) : Bool := decide (b = b' ∧ h = h')
theorem run_eql_scan (a b a' b' : Int) (w : World) :
  (binOp .eql 32 (.agg #[.int .u64 a, .int .i64 b]) (.agg #[.int .u64 a', .int .i64 b'])).run Tryz.prog w = .ok (.bool (sameS a b a' b')) w := by
 simp [go_sem, sameS]
 by_cases h1 : a = a' <;> by_cases h2 : b = b' <;> simp [h1, h2]
def scanFits (w h b room : Int) : Bool := inB h 0 (w - 1) && (decide (b / 2 ^ (8 * h).toNat = 0) && decide (w - h ≤ room))
def scanD (d : Dc) (ls : List Lvl) : Bool :=
 if d.mode = 6 ∨ d.mode = 7 ∨ d.mode = 9 then sameS d.bits d.have_ 0 0
 else if d.mode = 5 then scanFits (widthD d) d.have_ d.bits (topL ls)
 else if d.mode = 8 then (if widthD d = 0 then scanOk d.bits d.have_ else scanFits (widthD d) d.have_ d.bits d.want)
 else scanOk d.bits d.have_
theorem widthD_cases (d : Dc) : widthD d = 0 ∨ widthD d = 4 ∨ widthD d = 8 := by
 unfold widthD; split
 ·exact widthOf_cases _
 ·split
  ·exact widthOf_cases _
  ·exact .inl rfl
set_option maxRecDepth 100000 in
set_option maxHeartbeats 4000000 in
theorem specScanD_any (d : Dc) (a : Option Addr) (cap n : Nat) (xs : List Shp) (sa : Option Addr) (scap m : Nat) (ls : List Lvl) (w : World) (h : Shs w a xs) (h' : Lvls w sa ls) (hx : xs.length = n) (hl : ls.length = m) (hn : n ≤ 1048576) (hm : fldSum xs ≤ 1048576) (hm' : m ≤ 1048576) :
  Calls Tryz.prog 75 #[d.val (.slice a n cap) (.slice sa m scap)] w fun r w' => r = .returned (.bool (scanD d ls)) ∧ Below w.heap.size w w' := by
 have HL := Lib.hid hl; clear hl
 have HX := Lib.hid hx; clear hx
 have HSs := Lib.hid h; clear h
 have HSl := Lib.hid h'; clear h'
 obtain ⟨R, hR⟩ : ∃ R, scanD d ls = R := ⟨_, rfl⟩
 rw [hR]
 have HR := Lib.hid hR; clear hR
 have hne := run_eql_scan
 go_enter Tryz.func75, Tryz.ntmps75
 go_wp2_with (first | ((with_reducible refine gl ?_); first | (refine wlm w.heap.size (Dc.cl d (.slice a n cap) (.slice sa m scap)) (range_of_box (t := 40) (hset_new rfl)) ?_) | (refine wlw w.heap.size (Dc.cl d (.slice a n cap) (.slice sa m scap)) (range_of_box (t := 40) (hset_new rfl)) ?_)))
 refine (specWidthD_any d a cap n xs sa scap m ls _ (HSs.out.keep bl) (Sl.keep HSl.out bl) HX.out HL.out hn hm hm').mono ?_
 rintro r w1 ⟨rfl, hb1⟩
 have hz1 := hb1.size
 try simp only [World.size_alloc, World.size_setCell, World.size_drew] at hz1
 have hb1b : Below w.heap.size w w1 := by exact bl
 have kA := box_new0 hb1
 have hBA := box_lt0 hb1
 try simp only [World.size_alloc, World.size_setCell, World.size_drew] at kA
 try simp only [World.size_alloc, World.size_setCell, World.size_drew] at hBA
 clear hb1; have hb1 := hb1b; clear hb1b
 obtain ⟨v, hv⟩ : ∃ v, v = widthD d := ⟨_, rfl⟩
 rw [← hv]
 have HVC := Lib.hid (show v = 0 ∨ v = 4 ∨ v = 8 by rw [hv]; exact widthD_cases d)
 have HV := Lib.hid hv; clear hv
 by_cases h679 : d.mode = 6 ∨ d.mode = 7 ∨ d.mode = 9
 ·have HB := Lib.hid (show sameS d.bits d.have_ 0 0 = R by rw [← HR.out, scanD, if_pos h679])
  rcases h679 with h6 | h6 | h6
  all_goals
   go_wp2
   go_ret
   exact ⟨ret_bool HB.out, by exact bl⟩
 ·have g6 : ¬ d.mode = 6 := fun h => h679 (.inl h)
  have g7 : ¬ d.mode = 7 := fun h => h679 (.inr (.inl h))
  have g9 : ¬ d.mode = 9 := fun h => h679 (.inr (.inr h))
  by_cases h5 : d.mode = 5
  ·have HB := Lib.hid (show scanFits v d.have_ d.bits (topL ls) = R by rw [← HR.out, scanD, if_neg h679, if_pos h5, HV.out])
   have e5 : (d.mode == 5) = true := by simp [h5]
   have e6 : (d.mode == 6) = false := by simp [h5]
   have e7 : (d.mode == 7) = false := by simp [h5]
   have e8 : (d.mode == 8) = false := by simp [h5]
   have e9 : (d.mode == 9) = false := by simp [h5]
   clear HR h679 g6 g7 g9 h5
   go_wp2_with (first | ((with_reducible refine gl ?_); first | (refine wla w.heap.size (Dc.cl d (.slice a n cap) (.slice sa m scap)) ?_) | (refine wlb w.heap.size (Dc.cl d (.slice a n cap) (.slice sa m scap)) ?_)))
   refine (specTop_any d a cap n xs sa scap m ls _ (HSs.out.keep bl) (Sl.keep HSl.out bl) HX.out HL.out hn hm hm').mono ?_
   rintro r w2 ⟨rfl, hb2⟩
   have kA2 := box_next (hb2.mono (Nat.le_refl _)) hBA kA
   have hBA2 := Nat.lt_of_lt_of_le hBA hb2.size
   clear kA
   obtain ⟨room, hroom⟩ : ∃ t, t = topL ls := ⟨_, rfl⟩
   rw [← hroom] at HB ⊢
   clear hroom
   have hv8 : v ≤ 8 := by have := HVC.out; omega
   have hv1 : 0 ≤ v := by have := HVC.out; omega
   cases hin : inB d.have_ 0 (v - 1)
   ·have HF := Lib.hid (show false = R by rw [← HB.out, scanFits, hin]; rfl)
    go_wp2_with (first | (go_at_call 51; refine (l1In_any _ _ _ _).mono ?_; rintro r w3 ⟨rfl, rfl⟩))
    go_ret
    exact ⟨ret_bool HF.out, by exact bl⟩
   ·have HF := Lib.hid (show (decide (d.bits / 2 ^ (8 * d.have_).toNat = 0) && decide (v - d.have_ ≤ room)) = R by rw [← HB.out, scanFits, hin]; rfl)
    have hh : 0 ≤ d.have_ ∧ d.have_ ≤ v - 1 := by simpa only [inB, decide_eq_true_eq] using hin
    have hh0 := hh.1
    have hh1 : d.have_ ≤ 7 := by have := HVC.out; omega
    clear hh HB
    go_wp2_with (first | (go_at_call 51; refine (l1In_any _ _ _ _).mono ?_; rintro r w3 ⟨rfl, rfl⟩))
    all_goals
     go_ret
     refine ⟨ret_bool ?_, by exact bl⟩
     rw [← HF.out]
     simp_all
  ·by_cases h8 : d.mode = 8
   ·have e5 : (d.mode == 5) = false := by simp [h8]
    have e6 : (d.mode == 6) = false := by simp [h8]
    have e7 : (d.mode == 7) = false := by simp [h8]
    have e8 : (d.mode == 8) = true := by simp [h8]
    have e9 : (d.mode == 9) = false := by simp [h8]
    by_cases hv0 : v = 0
    ·have HB := Lib.hid (show scanOk d.bits d.have_ = R by rw [← HR.out, scanD, if_neg h679, if_neg h5, if_pos h8, if_pos (by rw [← HV.out]; exact hv0)])
     clear HR h679 g6 g7 g9 h5 h8
     go_wp2_with fail
     refine (specScanOk_any _ _ _).mono ?_
     rintro r w2 ⟨rfl, hb2⟩
     go_wp2
     go_ret
     exact ⟨ret_bool HB.out, by exact bl⟩
    ·have HB := Lib.hid (show scanFits v d.have_ d.bits d.want = R by rw [← HR.out, scanD, if_neg h679, if_neg h5, if_pos h8, if_neg (by rw [← HV.out]; exact hv0), HV.out])
     have ev : (v == 0) = false := by simp [hv0]
     clear HR h679 g6 g7 g9 h5 h8 hv0
     go_wp2_with (first | ((with_reducible refine gl ?_); first | (refine wla w.heap.size (Dc.cl d (.slice a n cap) (.slice sa m scap)) ?_) | (refine wlb w.heap.size (Dc.cl d (.slice a n cap) (.slice sa m scap)) ?_)))
     refine (specTop_any d a cap n xs sa scap m ls _ (HSs.out.keep bl) (Sl.keep HSl.out bl) HX.out HL.out hn hm hm').mono ?_
     rintro r w2 ⟨rfl, hb2⟩
     have kA2 := box_next (hb2.mono (Nat.le_refl _)) hBA kA
     have hBA2 := Nat.lt_of_lt_of_le hBA hb2.size
     clear kA
     obtain ⟨room, hroom⟩ : ∃ t, t = d.want := ⟨_, rfl⟩
     rw [← hroom] at HB
     have hv8 : v ≤ 8 := by have := HVC.out; omega
     have hv1 : 0 ≤ v := by have := HVC.out; omega
     cases hin : inB d.have_ 0 (v - 1)
     ·have HF := Lib.hid (show false = R by rw [← HB.out, scanFits, hin]; rfl)
      go_wp2_with (first | (go_at_call 51; refine (l1In_any _ _ _ _).mono ?_; rintro r w3 ⟨rfl, rfl⟩))
      go_ret
      exact ⟨ret_bool HF.out, by exact bl⟩
     ·have HF := Lib.hid (show (decide (d.bits / 2 ^ (8 * d.have_).toNat = 0) && decide (v - d.have_ ≤ room)) = R by rw [← HB.out, scanFits, hin]; rfl)
      have hh : 0 ≤ d.have_ ∧ d.have_ ≤ v - 1 := by simpa only [inB, decide_eq_true_eq] using hin
      have hh0 := hh.1
      have hh1 : d.have_ ≤ 7 := by have := HVC.out; omega
      clear hh HB
      go_wp2_with (first | (go_at_call 51; refine (l1In_any _ _ _ _).mono ?_; rintro r w3 ⟨rfl, rfl⟩))
      all_goals
       go_ret
       refine ⟨ret_bool ?_, by exact bl⟩
       rw [← HF.out]
       simp_all
   ·have HB := Lib.hid (show scanOk d.bits d.have_ = R by rw [← HR.out, scanD, if_neg h679, if_neg h5, if_neg h8])
    have e5 : (d.mode == 5) = false := by simp [h5]
    have e6 : (d.mode == 6) = false := by simp [g6]
    have e7 : (d.mode == 7) = false := by simp [g7]
    have e8 : (d.mode == 8) = false := by simp [h8]
    have e9 : (d.mode == 9) = false := by simp [g9]
    clear HR h679 g6 g7 g9 h5 h8
    go_wp2_with fail
    refine (specScanOk_any _ _ _).mono ?_
    rintro r w2 ⟨rfl, hb2⟩
    go_wp2
    go_ret
    exact ⟨ret_bool HB.out, by exact bl⟩
theorem wpQuiet_load_mid {P : Program} {ops : Array Oper} {rest : List Oper} {op : Oper} {a : Act} {w : World} {Q : Act → Prop} (ty : TypeId) (x : Operand) (ho : op.op = .load ty x) (hw : Region.wanted op (yielded ops a.tmps) = true)
  (b o : Nat) (hx : a.eval x = .pointer (some ⟨b, o, none⟩)) (cs : List Value) (d : TypeDesc) (hc : w.rangeAt b o cs) (hlt : b < w.heap.size)
  (hu : P.underlying ty = some d) (hd : d.isRow = true) (hi : (P.info? ty).map (·.size) = some cs.length)
  (h : wpQuiet P ops (fun w' => ∃ x, w' = World.ext w x) Q rest (a.put op.dst (.agg cs.toArray))) : wpQuiet P ops (fun w' => ∃ x, w' = World.ext w x) Q (op :: rest) a :=
 BigFrame.wpQuiet_want hw fun K hK => ⟨.agg cs.toArray, fun w' hw' => by
  obtain ⟨y, rfl⟩ := hw'
  have hb := World.ext_below w y
  have hr : (World.ext w y).rangeAt b o cs := fun j v hj => (hb.cell (p := ⟨b, o + j, none⟩) hlt).trans (hc j v hj)
  unfold Oper.quietAt execOp
  simp only [ho, hx, Instr.loadAt, Instr.sureAddr, Sem.run_bind, Sem.run_pure, Result.andThen_ok, run_loadVar_mid _ b o ty cs d hr hu hd hi]
  exact ⟨rfl, rfl⟩, hK _ h⟩
def zeroE : Ev := ⟨0, 0, 0, 0, ⟨#[]⟩, 0, 0⟩
def endOk (d : Dc) : Bool := if d.mode = 9 then eventOk d.end_ && terminal d.end_ else decide (d.end_ = zeroE)
def wantOk (d : Dc) (ls : List Lvl) : Bool := if d.mode = 6 ∨ d.mode = 7 ∨ d.mode = 8 then inB d.want 1 (topL ls) else d.want == 0
def free (d : Dc) : Bool := decide (d.field = zeroF) || allowed d.field d.wire
def kindOk (d : Dc) : Bool :=
 if d.mode = 3 then d.wire == 0 && free d
 else if d.mode = 4 then d.wire == 2 && free d
 else if d.mode = 5 then !(widthOf d.wire == 0) && free d
 else if d.mode = 6 then d.field.kind == 6 || d.field.kind == 7
 else if d.mode = 8 then runsF d.field
 else true
def headOk (d : Dc) (xs : List Shp) (ls : List Lvl) : Bool :=
 planOk d.p xs && (inB d.mode 1 9 && (inB d.at_ 0 1000000000 && (inB d.start 0 d.at_ && (utfOk d.utf && (wireOk d.wire && (fieldIn d.field xs && stackOk d xs.length ls))))))
def decOk (d : Dc) (xs : List Shp) (ls : List Lvl) : Bool :=
 headOk d xs ls && (endOk d && (wantOk d ls && (kindOk d && scanD d ls)))
set_option maxRecDepth 100000 in
set_option maxHeartbeats 8000000 in
theorem specDecOk_head (d : Dc) (a : Option Addr) (cap n : Nat) (xs : List Shp) (sa : Option Addr) (scap m : Nat) (ls : List Lvl) (w : World) (h : Shs w a xs) (h' : Lvls w sa ls) (hx : xs.length = n) (hl : ls.length = m) (hn : n ≤ 1048576) (hm : fldSum xs ≤ 1048576) (hm' : m ≤ 1048576) (hh : headOk d xs ls = false) :
  Calls Tryz.prog 30 #[d.val (.slice a n cap) (.slice sa m scap)] w fun r w' => r = .returned (.bool false) ∧ Below w.heap.size w w' := by
 have HL := Lib.hid hl; clear hl
 have HX := Lib.hid hx; clear hx
 have HSs := Lib.hid h; clear h
 have HSl := Lib.hid h'; clear h'
 have hxn : xs.length = n := HX.out
 have HH := Lib.hid hh; clear hh
 go_enter Tryz.func30, Tryz.ntmps30
 go_wp2_with fail
 refine (specPlanOk_any a cap n d.p xs _ (HSs.out.keep bl) HX.out hn hm).mono ?_
 rintro r w1 ⟨rfl, hb1⟩
 have hz1 := hb1.size
 try simp only [World.size_alloc, World.size_setCell, World.size_drew] at hz1
 have hb1b : Below w.heap.size w w1 := by exact bl
 have kA := box_new0 hb1
 have hBA := box_lt0 hb1
 try simp only [World.size_alloc, World.size_setCell, World.size_drew] at kA
 try simp only [World.size_alloc, World.size_setCell, World.size_drew] at hBA
 clear hb1; have hb1 := hb1b; clear hb1b
 cases h1 : planOk d.p xs
 ·skip
  skip
  go_wp2
  go_ret
  exact ⟨rfl, by exact bl⟩
 ·skip
  go_wp2_with (first | ((with_reducible refine gl ?_); first | (refine wla w.heap.size (Dc.cl d (.slice a n cap) (.slice sa m scap)) ?_) | (refine wlb w.heap.size (Dc.cl d (.slice a n cap) (.slice sa m scap)) ?_)))
  refine (l1In_any _ _ _ _).mono ?_
  rintro r wx2 ⟨rfl, rfl⟩
  cases h2 : inB d.mode 1 9
  ·skip
   skip
   go_wp2
   go_ret
   exact ⟨rfl, by exact bl⟩
  ·skip
   go_wp2_with (first | ((with_reducible refine gl ?_); first | (refine wla w.heap.size (Dc.cl d (.slice a n cap) (.slice sa m scap)) ?_) | (refine wlb w.heap.size (Dc.cl d (.slice a n cap) (.slice sa m scap)) ?_)))
   refine (l1In_any _ _ _ _).mono ?_
   rintro r wx3 ⟨rfl, rfl⟩
   cases h3 : inB d.at_ 0 1000000000
   ·skip
    skip
    go_wp2
    go_ret
    exact ⟨rfl, by exact bl⟩
   ·skip
    go_wp2_with (first | ((with_reducible refine gl ?_); first | (refine wla w.heap.size (Dc.cl d (.slice a n cap) (.slice sa m scap)) ?_) | (refine wlb w.heap.size (Dc.cl d (.slice a n cap) (.slice sa m scap)) ?_)))
    refine (l1In_any _ _ _ _).mono ?_
    rintro r wx4 ⟨rfl, rfl⟩
    cases h4 : inB d.start 0 d.at_
    ·skip
     skip
     go_wp2
     go_ret
     exact ⟨rfl, by exact bl⟩
    ·skip
     go_wp2_with (first | ((with_reducible refine gl ?_); first | (refine wla w.heap.size (Dc.cl d (.slice a n cap) (.slice sa m scap)) ?_) | (refine wlb w.heap.size (Dc.cl d (.slice a n cap) (.slice sa m scap)) ?_)))
     refine (specUtfOk_any d.utf _).mono ?_
     rintro r w5 ⟨rfl, hb5⟩
     have hz5 := hb5.size
     try simp only [World.size_alloc, World.size_setCell, World.size_drew] at hz5
     have hb5b : Below w1.heap.size w1 w5 := by exact bl
     have kA_ := box_next hb5b hBA kA; clear kA
     have kA := kA_; clear kA_
     have hBA_ := Nat.lt_of_lt_of_le hBA hb5b.size; clear hBA; have hBA := hBA_; clear hBA_
     clear hb5; have hb5 := hb5b; clear hb5b
     cases h5 : utfOk d.utf
     ·skip
      skip
      go_wp2
      go_ret
      exact ⟨rfl, by exact bl⟩
     ·skip
      go_wp2_with (first | ((with_reducible refine gl ?_); first | (refine wla w.heap.size (Dc.cl d (.slice a n cap) (.slice sa m scap)) ?_) | (refine wlb w.heap.size (Dc.cl d (.slice a n cap) (.slice sa m scap)) ?_)))
      refine (specWireOk_any _ _).mono ?_
      rintro r wx6 ⟨rfl, rfl⟩
      cases h6 : wireOk d.wire
      ·skip
       skip
       go_wp2
       go_ret
       exact ⟨rfl, by exact bl⟩
      ·skip
       go_wp2_with (first | ((with_reducible refine gl ?_); first | (refine wla w.heap.size (Dc.cl d (.slice a n cap) (.slice sa m scap)) ?_) | (refine wlb w.heap.size (Dc.cl d (.slice a n cap) (.slice sa m scap)) ?_)))
       refine (specFieldOk_any d a cap n xs sa scap m ls _ (HSs.out.keep bl) (Sl.keep HSl.out bl) HX.out HL.out hn hm hm').mono ?_
       rintro r w7 ⟨rfl, hb7⟩
       have hz7 := hb7.size
       try simp only [World.size_alloc, World.size_setCell, World.size_drew] at hz7
       have hb7b : Below w5.heap.size w5 w7 := by exact bl
       have kA_ := box_next hb7b hBA kA; clear kA
       have kA := kA_; clear kA_
       have hBA_ := Nat.lt_of_lt_of_le hBA hb7b.size; clear hBA; have hBA := hBA_; clear hBA_
       clear hb7; have hb7 := hb7b; clear hb7b
       cases h7 : fieldIn d.field xs
       ·skip
        skip
        go_wp2
        go_ret
        exact ⟨rfl, by exact bl⟩
       ·skip
        go_wp2_with (first | ((with_reducible refine gl ?_); first | (refine wla w.heap.size (Dc.cl d (.slice a n cap) (.slice sa m scap)) ?_) | (refine wlb w.heap.size (Dc.cl d (.slice a n cap) (.slice sa m scap)) ?_)))
        refine (specStackOk_any d a cap n xs sa scap m ls _ (HSs.out.keep bl) (Sl.keep HSl.out bl) HX.out HL.out hn hm hm').mono ?_
        rintro r w8 ⟨rfl, hb8⟩
        have hz8 := hb8.size
        try simp only [World.size_alloc, World.size_setCell, World.size_drew] at hz8
        have hb8b : Below w7.heap.size w7 w8 := by exact bl
        have kA_ := box_next hb8b hBA kA; clear kA
        have kA := kA_; clear kA_
        have hBA_ := Nat.lt_of_lt_of_le hBA hb8b.size; clear hBA; have hBA := hBA_; clear hBA_
        clear hb8; have hb8 := hb8b; clear hb8b
        cases h8 : stackOk d n ls
        ·skip
         skip
         go_wp2
         go_ret
         exact ⟨rfl, by exact bl⟩
        ·skip
         exact absurd HH.out (by simp only [headOk, hxn, h1, h2, h3, h4, h5, h6, h7, h8, Bool.true_and]; decide)
theorem isShape_any (p : Pl) (a : Option Addr) (cap n : Nat) (k : Int) (w : World) (hn : n ≤ 1048576) : Calls Tryz.prog 144 #[p.val (.slice a n cap), .int .i64 k] w fun r w' => r = .returned (.bool (inB k 0 (n - 1))) ∧ Below w.heap.size w w' := by
 go_enter Tryz.func144, Tryz.ntmps144
 go_wp2_with (first | (go_at_call 100; refine (within_any _ _ _ _).mono ?_; rintro r w1 ⟨rfl, rfl⟩))
 go_ret
 exact ⟨rfl, by exact bl⟩
theorem isLevel_any (p : Pl) (a : Option Addr) (cap n : Nat) (l : Lvl) (w : World) (hn : n ≤ 1048576) : Calls Tryz.prog 122 #[p.val (.slice a n cap), l.val] w fun r w' => r = .returned (.bool (lvlOk n l)) ∧ Below w.heap.size w w' := by
 obtain ⟨lm, ll⟩ := l
 go_enter Tryz.func122, Tryz.ntmps122
 go_wp2_with fail
 refine (isShape_any p a cap n lm _ hn).mono ?_
 rintro r w1 ⟨rfl, hb1⟩
 have hz1 := hb1.size
 try simp only [World.size_alloc, World.size_setCell, World.size_drew] at hz1
 have hb1b : Below w.heap.size w w1 := by exact bl
 have kL := box_new0 hb1
 have hBL := box_lt0 hb1
 try simp only [World.size_alloc, World.size_setCell, World.size_drew] at kL
 try simp only [World.size_alloc, World.size_setCell, World.size_drew] at hBL
 have kP := box_new1 hb1
 have hBP := box_lt1 hb1
 try simp only [World.size_alloc, World.size_setCell, World.size_drew] at kP
 try simp only [World.size_alloc, World.size_setCell, World.size_drew] at hBP
 clear hb1; have hb1 := hb1b; clear hb1b
 cases hs : inB lm 0 (n - 1)
 ·go_wp2
  go_ret
  exact ⟨ret_bool (by simp [lvlOk, hs]), by exact bl⟩
 ·go_wp2_with (first | (go_at_call 100; refine (within_any _ _ _ _).mono ?_; rintro r w2 ⟨rfl, rfl⟩))
  go_ret
  exact ⟨ret_bool (by simp [lvlOk, hs]), by exact bl⟩
theorem levelsOk1_any (d : Dc) (a : Option Addr) (cap n : Nat) (st : Value) (l : Lvl) (B : Nat) (w : World) (hn : n ≤ 1048576) (hB : B < w.heap.size) (kB : ∀ i : Nat, w.cell? ⟨B, i, none⟩ = ((Dc.cl d (.slice a n cap) st).toArray : Array Value)[i]?) :
  Calls Tryz.prog 121 #[l.val, .pointer (some ⟨B, 0, none⟩)] w fun r w' => r = .returned (.bool (!lvlOk n l)) ∧ Below w.heap.size w w' := by
 go_enter Tryz.func121, Tryz.ntmps121
 go_wp2_with fail
 refine (isLevel_any d.p a cap n l _ hn).mono ?_
 rintro r w1 ⟨rfl, hb1⟩
 go_wp2
 go_ret
 exact ⟨rfl, by exact bl⟩
theorem none_bad {n : Nat} {ls : List Lvl} (h : ls.all (lvlOk n) = true) : decide ((0 : Int) ≤ -1) = !(ls.all (lvlOk n)) := by rw [h]; rfl
theorem some_bad {n : Nat} {ls : List Lvl} {k : Nat} {e : Lvl} (he : ls[k]? = some e) (h : lvlOk n e = false) : decide ((0 : Int) ≤ (k : Int)) = !(ls.all (lvlOk n)) := by rw [all_bad he h]; simp
set_option maxHeartbeats 2000000 in
theorem indexFuncLvl_any (d : Dc) (a : Option Addr) (cap n : Nat) (st : Value) (sa : Option Addr) (scap m : Nat) (ls : List Lvl) (B : Nat) (w : World) (h' : Lvls w sa ls) (hl : ls.length = m) (hn : n ≤ 1048576) (hm' : m ≤ 1048576) (hB : B < w.heap.size) (kB : ∀ i : Nat, w.cell? ⟨B, i, none⟩ = ((Dc.cl d (.slice a n cap) st).toArray : Array Value)[i]?) :
  Calls Tryz.prog 143 #[.slice sa m scap, .func (.func 121) #[] #[.pointer (some ⟨B, 0, none⟩)]] w fun r w' => (∃ i : Int, r = .returned (.int .i64 i) ∧ decide (0 ≤ i) = !(ls.all (lvlOk n))) ∧ Below w.heap.size w w' := by
 have HL := Lib.hid hl; clear hl
 have HSl := Lib.hid h'; clear h'
 have HKB := Lib.hid kB; clear kB
 go_enter Tryz.func143, Tryz.ntmps143
 go_wp2
 go_loopw [4, 8] (fun t i wr => ∃ k : Nat, k ≤ m ∧ i = .int .i64 k ∧ Hid ((ls.take k).all (lvlOk n) = true) ∧ Below w.heap.size w wr) (fun _ i _ => m - (intOf i).toNat)
 case atStart => exact ⟨0, Nat.zero_le _, rfl, Lib.hid (by simp), Below.refl _ _⟩
 case round =>
  obtain ⟨k, hk, rfl, HK, hb⟩ := hrel
  have hz := hb.size
  have HK1 := Lib.hid (box_next hb hB HKB.out)
  by_cases hlt : k < m
  ·obtain ⟨e, he, _⟩ := at_lt (xs := ls) (k := k) (by rw [HL.out]; exact hlt)
   have HE := Lib.hid he
   obtain ⟨b, off, rfl, hlb, c0, c1⟩ := Lvls.at (HSl.out.below hb (Nat.le_refl _)) he
   clear he
   obtain ⟨em, el⟩ := e
   cases hi : lvlOk n ⟨em, el⟩
   ·have H := Lib.hid (some_bad HE.out hi)
    go_wp2_with fail
    refine (levelsOk1_any d a cap n st ⟨em, el⟩ B _ hn (by omega) HK1.out).mono ?_
    rintro r w2 ⟨rfl, hb2⟩
    rw [hi]
    go_wp2
    go_ret
    exact ⟨⟨_, rfl, H.out⟩, by exact bl⟩
   ·have H := Lib.hid (show (ls.take (k + 1)).all (lvlOk n) = true by rw [all_snoc HE.out, HK.out, hi]; rfl)
    go_wp2_with fail
    refine (levelsOk1_any d a cap n st ⟨em, el⟩ B _ hn (by omega) HK1.out).mono ?_
    rintro r w2 ⟨rfl, hb2⟩
    have hz2 := hb2.size
    rw [hi]
    go_wp2
    go_roundw
    case rel => exact ⟨k + 1, by omega, by go_num, H, by exact bl⟩
    case measure => simp [intOf]; omega
  ·have H := Lib.hid (none_bad (n := n) (ls := ls) (by have := HK.out; rw [List.take_of_length_le (by rw [HL.out]; omega)] at this; exact this))
   go_wp2
   go_ret
   exact ⟨⟨_, rfl, H.out⟩, hb⟩
theorem containsFuncLvl_any (d : Dc) (a : Option Addr) (cap n : Nat) (st : Value) (sa : Option Addr) (scap m : Nat) (ls : List Lvl) (B : Nat) (w : World) (h' : Lvls w sa ls) (hl : ls.length = m) (hn : n ≤ 1048576) (hm' : m ≤ 1048576) (hB : B < w.heap.size) (kB : ∀ i : Nat, w.cell? ⟨B, i, none⟩ = ((Dc.cl d (.slice a n cap) st).toArray : Array Value)[i]?) :
  Calls Tryz.prog 120 #[.slice sa m scap, .func (.func 121) #[] #[.pointer (some ⟨B, 0, none⟩)]] w fun r w' => r = .returned (.bool (!(ls.all (lvlOk n)))) ∧ Below w.heap.size w w' := by
 have HKB := Lib.hid kB; clear kB
 go_enter Tryz.func120, Tryz.ntmps120
 go_wp2_with fail
 refine (indexFuncLvl_any d a cap n st sa scap m ls B _ h' hl hn hm' hB HKB.out).mono ?_
 rintro r w1 ⟨⟨i, rfl, hi⟩, hb1⟩
 have H := Lib.hid hi; clear hi
 go_wp2
 go_ret
 exact ⟨ret_bool (by rw [← H.out]), hb1⟩
set_option maxRecDepth 100000 in
set_option maxHeartbeats 4000000 in
theorem levelsOk_any (d : Dc) (a : Option Addr) (cap n : Nat) (xs : List Shp) (sa : Option Addr) (scap m : Nat) (ls : List Lvl) (w : World) (h : Shs w a xs) (h' : Lvls w sa ls) (hx : xs.length = n) (hl : ls.length = m) (hn : n ≤ 1048576) (hm : fldSum xs ≤ 1048576) (hm' : m ≤ 1048576) :
  Calls Tryz.prog 82 #[d.val (.slice a n cap) (.slice sa m scap)] w fun r w' => r = .returned (.bool (planOk d.p xs && (decide ((m : Int) ≤ d.p.deep) && ls.all (lvlOk n)))) ∧ Below w.heap.size w w' := by
 have HL := Lib.hid hl; clear hl
 have HX := Lib.hid hx; clear hx
 have HSs := Lib.hid h; clear h
 have HSl := Lib.hid h'; clear h'
 go_enter Tryz.func82, Tryz.ntmps82
 go_wp2_with fail
 refine (implPlanOk_any a cap n d.p xs _ (HSs.out.keep bl) HX.out hn hm).mono ?_
 rintro r w1 ⟨rfl, hb1⟩
 have hz1 := hb1.size
 try simp only [World.size_alloc, World.size_setCell, World.size_drew] at hz1
 have hb1b : Below w.heap.size w w1 := by exact bl
 have kA := box_new0 hb1
 have hBA := box_lt0 hb1
 try simp only [World.size_alloc, World.size_setCell, World.size_drew] at kA
 try simp only [World.size_alloc, World.size_setCell, World.size_drew] at hBA
 clear hb1; have hb1 := hb1b; clear hb1b
 cases h1 : planOk d.p xs
 ·go_wp2
  go_ret
  exact ⟨ret_bool (by simp [h1]), by exact bl⟩
 ·by_cases h2 : (m : Int) ≤ d.p.deep
  ·have hd : decide ((m : Int) ≤ d.p.deep) = true := by simp [h2]
   go_wp2_with fail
   refine (containsFuncLvl_any d a cap n (.slice sa m scap) sa scap m ls w.heap.size _ (Sl.keep HSl.out bl) HL.out hn hm' hBA kA).mono ?_
   rintro r w2 ⟨rfl, hb2⟩
   go_wp2
   go_ret
   exact ⟨ret_bool (by simp [h1, h2]), by exact bl⟩
  ·have hd : decide ((m : Int) ≤ d.p.deep) = false := by simp [h2]
   go_wp2
   go_ret
   exact ⟨ret_bool (by simp [h1]; intro hq; omega), by exact bl⟩
end Go.Proofs.YtabdjimjelfbfaaGreat
namespace Go.Proofs.YtabdjimjelfbfaaGreat
set_option linter.unusedSimpArgs false
set_option linter.unusedVariables false
def lvOk (d : Dc) (xs : List Shp) (ls : List Lvl) : Bool := planOk d.p xs && (decide ((ls.length : Int) ≤ d.p.deep) && ls.all (lvlOk xs.length))
def evK (k : Int) : Ev := ⟨k, 0, 0, 0, ⟨#[]⟩, 0, 0⟩
def failE (c t : Int) : Ev := ⟨10, 0, 0, 0, ⟨#[]⟩, c, t⟩
def failD (d : Dc) (c t : Int) : Dc := ⟨d.p, 9, 0, 0, d.start, d.at_, d.field, d.wire, 0, d.utf, failE c t⟩
def modeD (d : Dc) (m : Int) : Dc := ⟨d.p, m, d.bits, d.have_, d.start, d.at_, d.field, d.wire, d.want, d.utf, d.end_⟩
def mode0 (d : Dc) (m : Int) : Dc := ⟨d.p, m, d.bits, d.have_, d.start, d.at_, d.field, d.wire, 0, d.utf, d.end_⟩
def shutD (d : Dc) : Dc := ⟨d.p, 2, d.bits, d.have_, d.start, d.at_, d.field, d.wire, 0, ⟨0, 0, 0⟩, d.end_⟩
def scan0 (d : Dc) : Dc := ⟨d.p, d.mode, 0, 0, d.start, d.at_, d.field, d.wire, d.want, d.utf, d.end_⟩
abbrev Outc := Dc × List Lvl × List Ev
def closeS (d : Dc) (ls : List Lvl) : Option Outc :=
 if d.mode = 6 ∧ d.want < 1 then
  if 0 < d.utf.want then some (failD d 5 d.at_, ls, [failE 5 d.at_]) else some (shutD d, ls, [evK 5])
 else if (d.mode = 7 ∨ d.mode = 8 ∧ d.have_ = 0) ∧ d.want < 1 then some (mode0 d 2, ls, [])
 else if d.mode = 2 ∧ d.have_ = 0 ∧ 0 < ls.length ∧ topL ls = 0 then
  if ls.length = 1 then some (modeD d 1, [], [evK 8]) else some (d, ls.dropLast, [evK 7])
 else none
def msr (d : Dc) (ls : List Lvl) : Nat := 2 * ls.length + if d.mode = 2 then 0 else if d.mode = 1 then 0 else if d.mode = 9 then 0 else 1
theorem closeS_msr {d d' : Dc} {ls ls' : List Lvl} {es : List Ev} (h : closeS d ls = some (d', ls', es)) : msr d' ls' < msr d ls := by
 unfold closeS at h
 split at h
 ·rename_i h1
  split at h <;> (simp only [Option.some.injEq, Prod.mk.injEq] at h; obtain ⟨rfl, rfl, rfl⟩ := h; simp [msr, failD, shutD, h1.1])
 ·split at h
  ·rename_i h1
   simp only [Option.some.injEq, Prod.mk.injEq] at h; obtain ⟨rfl, rfl, rfl⟩ := h
   rcases h1.1 with h2 | h2 <;> simp [msr, mode0, h2]
  ·split at h
   ·rename_i h1
    split at h
    ·simp only [Option.some.injEq, Prod.mk.injEq] at h; obtain ⟨rfl, rfl, rfl⟩ := h
     simp [msr, modeD, h1.1]; omega
    ·simp only [Option.some.injEq, Prod.mk.injEq] at h; obtain ⟨rfl, rfl, rfl⟩ := h
     simp [msr, h1.1]; omega
   ·simp at h
theorem closeS_len {d d' : Dc} {ls ls' : List Lvl} {es : List Ev} (h : closeS d ls = some (d', ls', es)) : es.length ≤ 1 ∧ ls'.length ≤ ls.length := by
 unfold closeS at h
 split at h
 ·split at h <;> (simp only [Option.some.injEq, Prod.mk.injEq] at h; obtain ⟨rfl, rfl, rfl⟩ := h; simp)
 ·split at h
  ·simp only [Option.some.injEq, Prod.mk.injEq] at h; obtain ⟨rfl, rfl, rfl⟩ := h
   simp
  ·split at h
   ·split at h <;> (simp only [Option.some.injEq, Prod.mk.injEq] at h; obtain ⟨rfl, rfl, rfl⟩ := h; simp)
   ·simp at h
def settleF : Nat → Dc → List Lvl → Outc
 | 0, d, ls => (d, ls, [])
 | f + 1, d, ls => match closeS d ls with
  | none => (d, ls, [])
  | some (d', ls', es) => ((settleF f d' ls').1, (settleF f d' ls').2.1, es ++ (settleF f d' ls').2.2)
def settle (d : Dc) (ls : List Lvl) : Outc := settleF (msr d ls + 1) d ls
theorem settleF_eq : ∀ (f g : Nat) (d : Dc) (ls : List Lvl), msr d ls < f → msr d ls < g → settleF f d ls = settleF g d ls
 | 0, _, _, _, h, _ => by omega
 | _ + 1, 0, _, _, _, h => by omega
 | f + 1, g + 1, d, ls, h, h' => by
  simp only [settleF]
  cases hc : closeS d ls with
  | none => rfl
  | some x =>
   obtain ⟨d', ls', es⟩ := x
   have := closeS_msr hc
   simp only
   rw [settleF_eq f g d' ls' (by omega) (by omega)]
theorem settle_none {d : Dc} {ls : List Lvl} (h : closeS d ls = none) : settle d ls = (d, ls, []) := by simp [settle, settleF, h]
theorem settle_some {d d' : Dc} {ls ls' : List Lvl} {es : List Ev} (h : closeS d ls = some (d', ls', es)) :
  settle d ls = ((settle d' ls').1, (settle d' ls').2.1, es ++ (settle d' ls').2.2) := by
 have := closeS_msr h
 rw [settle, settleF, h]
 simp only
 rw [settleF_eq (msr d ls) (msr d' ls' + 1) d' ls' (by omega) (by omega), settle]
def behind (es : List Ev) (r : Outc) : Outc := (r.1, r.2.1, es ++ r.2.2)
theorem behind_nil (r : Outc) : behind [] r = r := rfl
theorem settle_step {d d' : Dc} {ls ls' : List Lvl} {es fs : List Ev} {R : Outc} (h : closeS d ls = some (d', ls', fs)) (hR : behind es (settle d ls) = R) : behind (es ++ fs) (settle d' ls') = R := by
 rw [← hR, settle_some h]; simp [behind]
theorem settle_end {d : Dc} {ls : List Lvl} {es : List Ev} {R : Outc} (h : closeS d ls = none) (hR : behind es (settle d ls) = R) : (d, ls, es) = R := by
 rw [← hR, settle_none h]; simp [behind]
def failO (d : Dc) (ls : List Lvl) (c t : Int) : Outc := (failD d c t, ls, [failE c t])
def settleO (d : Dc) (xs : List Shp) (ls : List Lvl) : Outc := if lvOk d xs ls = true then settle d ls else (d, ls, [])
end Go.Proofs.YtabdjimjelfbfaaGreat
namespace Go.Proofs.YtabdjimjelfbfaaGreat
set_option linter.unusedSimpArgs false
set_option linter.unusedVariables false
open Go.ChangeShapes Go.WideShapes Go.ChangeAt Go.RowKit Go.BigFrame
structure OwnDE (w : World) (lo hi : Nat) (a : Option Addr) (n : Nat) (rs : List ShR) (xs : List Shp) (sa : Option Addr) (m : Nat) (L : List Value) (ea : Option Addr) (k : Nat) (E : List Value) : Prop where
 sh : OwnSh w lo hi a n rs xs
 lv : OwnR w lo hi sa (m * 2) L
 ev : OwnR w lo hi ea (k * 7) E
 a1 : ∀ b, ShBlk a n rs b → m ≠ 0 → sa ≠ some ⟨b, 0, none⟩
 a2 : ∀ b, ShBlk a n rs b → k ≠ 0 → ea ≠ some ⟨b, 0, none⟩
 a3 : ∀ b, m ≠ 0 → k ≠ 0 → sa = some ⟨b, 0, none⟩ → ea ≠ some ⟨b, 0, none⟩
 le : hi ≤ w.heap.size
theorem typed_ne {w : World} {b : Nat} {cur cur' : Array Value} {t t' : TypeId} (h : w.heap[b]? = some (.cells cur t (0, 0))) (h' : w.heap[b]? = some (.cells cur' t' (0, 0))) : t = t' := by
 rw [h] at h'
 simp only [Option.some.injEq, Obj.cells.injEq] at h'
 exact h'.2.1
section
variable {w w' : World} {lo hi n m k : Nat} {a sa ea : Option Addr} {rs : List ShR} {xs : List Shp} {L E : List Value}
theorem OwnDE.chg (h : OwnDE w lo hi a n rs xs sa m L ea k E) {lo' hi' : Nat} (hc : Chg lo' hi' w w') (hd : hi ≤ lo' ∨ hi' ≤ lo) : OwnDE w' lo hi a n rs xs sa m L ea k E :=
 ⟨h.sh.chg hc hd, h.lv.chg hc hd, h.ev.chg hc hd, h.a1, h.a2, h.a3, Nat.le_trans h.le hc.size⟩
theorem OwnDE.keep (h : OwnDE w lo hi a n rs xs sa m L ea k E) (hb : Below w.heap.size w w') : OwnDE w' lo hi a n rs xs sa m L ea k E :=
 h.chg (Chg.of_below (lo := hi) (hi := hi) hb) (.inl (Nat.le_refl _))
theorem OwnDE.widen (h : OwnDE w lo hi a n rs xs sa m L ea k E) {lo' : Nat} (h1 : lo' ≤ lo) : OwnDE w lo' hi a n rs xs sa m L ea k E :=
 ⟨⟨Nat.le_trans h1 h.sh.le, h.sh.len, h.sh.lenx, h.sh.outer.widen h1 (Nat.le_refl _), fun q r x hr hx => ⟨(h.sh.each q r x hr hx).1, (h.sh.each q r x hr hx).2.1, (h.sh.each q r x hr hx).2.2.widen h1 (Nat.le_refl _)⟩, h.sh.apart, h.sh.off⟩,
  h.lv.widen h1 (Nat.le_refl _), h.ev.widen h1 (Nat.le_refl _), h.a1, h.a2, h.a3, h.le⟩
theorem OwnDE.shs (h : OwnDE w lo hi a n rs xs sa m L ea k E) : Shs w a xs := h.sh.shs
end
def FreshDE (w : World) (T TF TL TE : TypeId) (xs : List Shp) (O : Outc) (r : Ending) (w' : World) : Prop :=
 ∃ a cap rs sa scap ea ecap, r = .returned (.tuple #[O.1.val (.slice a xs.length cap) (.slice sa O.2.1.length scap), .slice ea O.2.2.length ecap]) ∧ OwnShs w' w.heap.size T TF (.slice a xs.length cap) xs.length rs xs
  ∧ w'.ownsRow w.heap.size TL 2 (.slice sa O.2.1.length scap) O.2.1.length (O.2.1.flatMap Lvl.cs) ∧ w'.ownsRow w.heap.size TE 7 (.slice ea O.2.2.length ecap) O.2.2.length (O.2.2.flatMap Ev.cs) ∧ Below w.heap.size w w'
theorem World.ownsRow.of_box (w : World) (e : Ev) (t : TypeId) : (w.alloc (.cells e.cs.toArray t)).ownsRow w.heap.size t 7 (.slice (some ⟨w.heap.size, 0, none⟩) 1 1) 1 e.cs :=
 ⟨by simp, .inr ⟨w.heap.size, 1, e.cs.toArray, rfl, Nat.le_refl _, heap_nth0 w _, Nat.le_refl _, by unfold maxLen; omega, by simp, by simp⟩⟩
theorem specFailE_any (c t : Int) (w : World) : Calls Tryz.prog 85 #[.int .i64 c, .int .i64 t] w fun r w' => r = .returned (failE c t).val ∧ Below w.heap.size w w' := by
 go_enter Tryz.func85, Tryz.ntmps85
 go_wp2
 exact bodyPost_ret (by simp [results, Tryz.results85, go_sem, failE]; try rfl) rfl ⟨rfl, by exact bl⟩
set_option maxRecDepth 100000 in
set_option maxHeartbeats 600000 in
theorem l15Fail_any (d : Dc) (a : Option Addr) (cap n : Nat) (sa : Option Addr) (scap m : Nat) (c t : Int) (w : World) :
  Calls Tryz.prog 40 #[d.val (.slice a n cap) (.slice sa m scap), .int .i64 c, .int .i64 t] w fun r w' =>
   ∃ ea ecap, r = .returned (.tuple #[(failD d c t).val (.slice a n cap) (.slice sa m scap), .slice ea 1 ecap]) ∧ w'.ownsRow w.heap.size 38 7 (.slice ea 1 ecap) 1 (failE c t).cs ∧ Below w.heap.size w w' := by
 go_enter Tryz.func40, Tryz.ntmps40
 go_wp2_with fail
 refine (specFailE_any c t _).mono ?_
 rintro r w1 ⟨rfl, hb1⟩
 have hz1 := hb1.size
 simp only [World.size_alloc] at hz1
 have hA_ : w1.heap[w.heap.size]? = some (.cells (c1111 (.slice a n cap) (.slice sa m scap) d.p 9 d.bits d.have_ d.start d.at_ d.field d.wire d.want d.utf d.end_).toArray 40 (0, 0)) := (hb1.block _ (by simp; omega)).trans (hset_alloc (hset_new rfl))
 have hR_ : w1.heap[w.heap.size + 1]? = some (.cells dz0.toArray 40 (0, 0)) := (hb1.block _ (by simp)).trans (hset_new (by simp))
 have hb1b : Below w.heap.size w w1 := by exact bl
 have kA := box_cells hA_; have fA := box_frozen hA_; have hBA := box_lt hA_; have HA := Lib.hid hA_; clear hA_
 have HR := Lib.hid hR_; clear hR_ hb1
 simp only [failE]
 go_wp2_with fail
 generalize hw2 : World.setCell _ (⟨w.heap.size, 16, none⟩ : Addr) (.int .i64 0) = w2
 have hA_ : w2.heap[w.heap.size]? = some (.cells (c1110 (.slice a n cap) (.slice sa m scap) d.p 9 0 0 d.start d.at_ d.field d.wire 0 d.utf 10 0 0 0 ⟨#[]⟩ c t).toArray 40 (0, 0)) := by rw [← hw2]; apply hset_eq; (repeat (first | (with_reducible exact HA.out) | (with_reducible apply hset_set))); simp only [List.setIfInBounds_toArray, List.set_cons_zero, List.set_cons_succ]
 have hR_ : w2.heap[w.heap.size + 1]? = some (.cells dz0.toArray 40 (0, 0)) := by rw [← hw2]; (repeat (first | (with_reducible exact HR.out) | (with_reducible refine hset_other ?_ (by simp))))
 have hb2 : Below w.heap.size w w2 := by rw [← hw2]; exact bl
 have hz2 : w2.heap.size = w1.heap.size := by rw [← hw2]; simp
 clear hw2 kA fA hBA HA HR
 have kA := box_cells hA_
 have HR := Lib.hid hR_; clear hR_ hA_
 refine wp_region_till (fun w' => ∀ i : Nat, w'.cell? ⟨w.heap.size, i, none⟩ = ((c1110 (.slice a n cap) (.slice sa m scap) d.p 9 0 0 d.start d.at_ d.field d.wire 0 d.utf 10 0 0 0 ⟨#[]⟩ c t).toArray : Array Value)[i]?) (fun _ => false) (by kernel_rfl) ?_
 have hS : (fun w' : World => ∀ i : Nat, w'.cell? ⟨w.heap.size, i, none⟩ = ((c1110 (.slice a n cap) (.slice sa m scap) d.p 9 0 0 d.start d.at_ d.field d.wire 0 d.utf 10 0 0 0 ⟨#[]⟩ c t).toArray : Array Value)[i]?) w2.drew := kA
 refine' wpTill_take (i := 0) (oi := _) (v := _) rfl (by kernel_rfl) (by kernel_rfl) (by kernel_rfl) (by kernel_rfl) (fun _ _ _ h => h) (yieldsIf_load_mid (by rfl) _ _ rfl _ _ rfl (c1110 (.slice a n cap) (.slice sa m scap) d.p 9 0 0 d.start d.at_ d.field d.wire 0 d.utf 10 0 0 0 ⟨#[]⟩ c t) _ (fun wq hq => range_of_cells hq) Tryz.underlying40 rfl size_Dec) hS ?_
 try simp only [List.getElem_toArray, List.getElem_cons_succ, List.getElem_cons_zero, Act.put, List.setIfInBounds_toArray, List.set_cons_zero, List.set_cons_succ]
 refine tk (i := 1) hS ?_
 refine tk (i := 2) hS ?_
 have fin : ∀ W : World, W.heap[w.heap.size + 1]? = some (.cells (c1110 (.slice a n cap) (.slice sa m scap) d.p 9 0 0 d.start d.at_ d.field d.wire 0 d.utf 10 0 0 0 ⟨#[]⟩ c t).toArray 40 (0, 0)) → W.ownsRow w2.heap.size 38 7 (.slice (some ⟨w2.heap.size, 0, none⟩) 1 1) 1 (failE c t).cs → Below w.heap.size w W → ∀ (tm : Array Value), tm.getD 6 undef = .pointer (some ⟨w.heap.size + 1, 0, none⟩) → tm.getD 7 undef = .slice (some ⟨w2.heap.size, 0, none⟩) 1 1 →
   bodyPost Tryz.prog Tryz.f40 (fun r w' => ∃ ea ecap, r = .returned (.tuple #[(failD d c t).val (.slice a n cap) (.slice sa m scap), .slice ea 1 ecap]) ∧ w'.ownsRow w.heap.size 38 7 (.slice ea 1 ecap) 1 (failE c t).cs ∧ Below w.heap.size w w') .ret ⟨tm, []⟩ W := by
  intro W h1 h2 h3 tm t1 t2
  exact bodyPost_ret (results_cell_tmp Tryz.results40 t1 t2 (run_loadVar_mid W (w.heap.size + 1) 0 40 (c1110 (.slice a n cap) (.slice sa m scap) d.p 9 0 0 d.start d.at_ d.field d.wire 0 d.utf 10 0 0 0 ⟨#[]⟩ c t) _ (range_of_box h1) Tryz.underlying40 rfl size_Dec)) rfl ⟨_, _, rfl, owns_le h2 (by omega), h3⟩
 refine wpTill_two (i := 3) (j := 4) (by kernel_rfl) rfl rfl (fun K hK => ?_) (fun K hK => ?_)
 ·go_simp
  have hS1 : (fun w' : World => ∀ i : Nat, w'.cell? ⟨w.heap.size, i, none⟩ = ((c1110 (.slice a n cap) (.slice sa m scap) d.p 9 0 0 d.start d.at_ d.field d.wire 0 d.utf 10 0 0 0 ⟨#[]⟩ c t).toArray : Array Value)[i]?) (w2.alloc (.cells #[.int .i64 10, .int .i64 0, .int .u64 0, .int .i64 0, .string ⟨#[]⟩, .int .i64 c, .int .i64 t] 38)).drew := fun i => (World.cell?_alloc_lt _ _ _ (by simp; omega)).trans (hS i)
  refine hK.out _ _ (fun _ => hS1) ?_
  clear hK K
  try simp only [Act.put, List.setIfInBounds_toArray, List.set_cons_zero, List.set_cons_succ]
  refine wpTill_op (i := 4) (by kernel_rfl) rfl (fun K hK => ?_)
  refine step_store_row rfl 40 _ _ rfl (w.heap.size + 1) (c1110 (.slice a n cap) (.slice sa m scap) d.p 9 0 0 d.start d.at_ d.field d.wire 0 d.utf 10 0 0 0 ⟨#[]⟩ c t).toArray rfl rfl 40 dz0.toArray (hset_alloc HR.out) size_Dec rfl (by simp [Value.oneCell']) ?_
  refine hK.out _ _ (fun _ => fun i => (World.cell?_of_block (a := ⟨w.heap.size, i, none⟩) (setRow_other _ _ _ _ (by simp))).trans (hS1 i)) ?_
  clear hK K
  try simp only [Act.put, List.setIfInBounds_toArray, List.set_cons_zero, List.set_cons_succ]
  refine wpTill_op (i := 5) (by kernel_rfl) rfl (fun K hK => ?_)
  go_simp
  refine hK.out _ _ (fun _ => fun i => (World.cell?_of_block (a := ⟨w.heap.size, i, none⟩) (setRow_other _ _ _ _ (by simp))).trans (hS1 i)) ?_
  clear hK K
  refine wpTill_done (by kernel_rfl) ?_ _
  go_wp2
  refine fin _ ?_ ?_ ?_ _ rfl (by rw [hz2]; rfl)
  ·exact hset_row (cs := dz0.toArray) (hset_alloc HR.out)
  ·rw [hz2]; exact owns_setRow (hz2 ▸ World.ownsRow.of_box w2 (failE c t) 38) (by omega) _
  ·exact bl
 ·refine step_store_row rfl 40 _ _ rfl (w.heap.size + 1) (c1110 (.slice a n cap) (.slice sa m scap) d.p 9 0 0 d.start d.at_ d.field d.wire 0 d.utf 10 0 0 0 ⟨#[]⟩ c t).toArray rfl rfl 40 dz0.toArray HR.out size_Dec rfl (by simp [Value.oneCell']) ?_
  have hS1 : (fun w' : World => ∀ i : Nat, w'.cell? ⟨w.heap.size, i, none⟩ = ((c1110 (.slice a n cap) (.slice sa m scap) d.p 9 0 0 d.start d.at_ d.field d.wire 0 d.utf 10 0 0 0 ⟨#[]⟩ c t).toArray : Array Value)[i]?) (w2.drew.setRow (w.heap.size + 1) (c1110 (.slice a n cap) (.slice sa m scap) d.p 9 0 0 d.start d.at_ d.field d.wire 0 d.utf 10 0 0 0 ⟨#[]⟩ c t).toArray) := fun i => (World.cell?_of_block (a := ⟨w.heap.size, i, none⟩) (setRow_other _ _ _ _ (by simp))).trans (hS i)
  refine hK.out _ _ (fun _ => hS1) ?_
  clear hK K
  try simp only [Act.put, List.setIfInBounds_toArray, List.set_cons_zero, List.set_cons_succ]
  refine wpTill_op (i := 3) (by kernel_rfl) rfl (fun K hK => ?_)
  go_simp
  have hS2 : (fun w' : World => ∀ i : Nat, w'.cell? ⟨w.heap.size, i, none⟩ = ((c1110 (.slice a n cap) (.slice sa m scap) d.p 9 0 0 d.start d.at_ d.field d.wire 0 d.utf 10 0 0 0 ⟨#[]⟩ c t).toArray : Array Value)[i]?) ((w2.drew.setRow (w.heap.size + 1) (c1110 (.slice a n cap) (.slice sa m scap) d.p 9 0 0 d.start d.at_ d.field d.wire 0 d.utf 10 0 0 0 ⟨#[]⟩ c t).toArray).alloc (.cells #[.int .i64 10, .int .i64 0, .int .u64 0, .int .i64 0, .string ⟨#[]⟩, .int .i64 c, .int .i64 t] 38)) := fun i => (World.cell?_alloc_lt _ _ _ (by simp; omega)).trans (hS1 i)
  refine hK.out _ _ (fun _ => hS2) ?_
  clear hK K
  try simp only [Act.put, List.setIfInBounds_toArray, List.set_cons_zero, List.set_cons_succ]
  refine wpTill_op (i := 5) (by kernel_rfl) rfl (fun K hK => ?_)
  go_simp
  refine hK.out _ _ (fun _ => hS2) ?_
  clear hK K
  refine wpTill_done (by kernel_rfl) ?_ _
  go_wp2
  refine fin _ ?_ ?_ ?_ _ rfl (by rw [hz2]; rfl)
  ·exact hset_alloc (hset_row (cs := dz0.toArray) HR.out)
  ·have hq := World.ownsRow.of_box (w2.drew.setRow (w.heap.size + 1) (c1110 (.slice a n cap) (.slice sa m scap) d.p 9 0 0 d.start d.at_ d.field d.wire 0 d.utf 10 0 0 0 ⟨#[]⟩ c t).toArray) (failE c t) 38
   simp only [size_setRow] at hq
   exact hq
  ·exact bl
theorem finDE {F : Func} {p q : Tmp} (hF : F.results = #[.cell p 40, .tmp q]) {tm : Array Value} {R : Nat} {W w : World} {e : Dc} {xs : List Shp} {ms : List Lvl} {es : List Ev} {a sa ea : Option Addr} {cap scap ecap base : Nat} {rs : List ShR}
  (t1 : tm.getD p undef = .pointer (some ⟨R, 0, none⟩)) (t2 : tm.getD q undef = .slice ea es.length ecap) (h1 : W.heap[R]? = some (.cells (Dc.cl e (.slice a xs.length cap) (.slice sa ms.length scap)).toArray 40 (0, 0)))
  (h2 : OwnShs W base 77 34 (.slice a xs.length cap) xs.length rs xs) (h3 : W.ownsRow base 67 2 (.slice sa ms.length scap) ms.length (ms.flatMap Lvl.cs)) (h4 : W.ownsRow base 38 7 (.slice ea es.length ecap) es.length (es.flatMap Ev.cs)) (hb : Below w.heap.size w W) (hle : w.heap.size ≤ base) :
  bodyPost Tryz.prog F (FreshDE w 77 34 67 38 xs (e, ms, es)) .ret ⟨tm, []⟩ W :=
 bodyPost_ret (results_cell_tmp hF t1 t2 (run_loadVar_mid W R 0 40 (Dc.cl e (.slice a xs.length cap) (.slice sa ms.length scap)) _ (range_of_box h1) Tryz.underlying40 rfl size_Dec)) rfl ⟨a, cap, rs, sa, scap, ea, ecap, rfl, h2.le hle, owns_le h3 hle, owns_le h4 hle, hb⟩
set_option maxRecDepth 100000 in
set_option maxHeartbeats 2000000 in
theorem l15Ok_any (d : Dc) (a : Option Addr) (cap n : Nat) (xs : List Shp) (sa : Option Addr) (scap m : Nat) (ls : List Lvl) (w : World) (h : Shs w a xs) (h' : Lvls w sa ls) (hx : xs.length = n) (hl : ls.length = m) (hn : n ≤ 1048576) (hm : fldSum xs ≤ 1048576) (hm' : m ≤ 1048576) :
  Calls Tryz.prog 38 #[d.val (.slice a n cap) (.slice sa m scap)] w fun r w' => r = .returned (.bool (lvOk d xs ls)) ∧ Below w.heap.size w w' := by
 have HL := Lib.hid hl; clear hl
 have HX := Lib.hid hx; clear hx
 have HSs := Lib.hid h; clear h
 have HSl := Lib.hid h'; clear h'
 obtain ⟨R, hR⟩ : ∃ R, lvOk d xs ls = R := ⟨_, rfl⟩
 rw [hR]
 have HR := Lib.hid hR; clear hR
 go_enter Tryz.func38, Tryz.ntmps38
 go_wp2_with fail
 refine (specPlanOk_any _ _ _ d.p xs _ (HSs.out.keep bl) HX.out hn hm).mono ?_
 rintro r w1 ⟨rfl, hb1⟩
 have hz1 := hb1.size
 try simp only [World.size_alloc, World.size_setCell, World.size_drew] at hz1
 have hb1b : Below w.heap.size w w1 := by exact bl
 have kA := box_new0 hb1
 have hBA := box_lt0 hb1
 try simp only [World.size_alloc, World.size_setCell, World.size_drew] at kA
 try simp only [World.size_alloc, World.size_setCell, World.size_drew] at hBA
 clear hb1; have hb1 := hb1b; clear hb1b
 cases h0 : planOk d.p xs
 ·have HB := Lib.hid (show false = R by rw [← HR.out, lvOk, h0]; rfl)
  go_wp2
  go_ret
  exact ⟨ret_bool HB.out, by exact bl⟩
 ·by_cases hdp : (m : Int) ≤ d.p.deep
  ·go_wp2_with fail
   go_loopw [3] (fun i wr => ∃ k : Nat, k ≤ m ∧ i = .int .i64 k ∧ Hid ((ls.take k).all (lvlOk n) = true) ∧ Below w.heap.size w wr ∧ w.heap.size < wr.heap.size ∧ (∀ i : Nat, wr.cell? ⟨w.heap.size, i, none⟩ = ((Dc.cl d (.slice a n cap) (.slice sa m scap)).toArray : Array Value)[i]?)) (fun i _ => m - (intOf i).toNat)
   case atStart => exact ⟨0, Nat.zero_le _, rfl, Lib.hid (by simp), by exact bl, hBA, kA⟩
   case round =>
    obtain ⟨k, hk, rfl, HK, hb, hBA2, kA2⟩ := hrel
    clear kA hBA; have kA := kA2; have hBA := hBA2; clear kA2 hBA2
    have hz := hb.size
    by_cases hlt : k < m
    ·obtain ⟨e, he, _⟩ := at_lt (xs := ls) (k := k) (by rw [HL.out]; exact hlt)
     have HE := Lib.hid he
     obtain ⟨b, off, rfl, hlb, c0, c1⟩ := Lvls.at (HSl.out.below hb (Nat.le_refl _)) he
     clear he
     cases h1 : inB e.msg 0 (n - 1)
     ·have HB := Lib.hid (show false = R by rw [← HR.out, lvOk, HX.out, all_bad HE.out (by simp [lvlOk, h1])]; simp)
      go_wp2_with fail
      (refine wp_region_ext (by kernel_rfl) (by kernel_rfl) ?_; (repeat (go_big_quiet_step (first | (go_at_call 51; refine Calls.ext_of_same (l1In_any _ _ _ _))))); refine wpQuiet_nil ?_; intro w2 hb2; obtain ⟨hc2, hf2⟩ := bcell hb2; have hz2 := hb2.size; (try simp only [World.size_alloc, World.size_setCell, World.size_drew] at hz2))
      have kA1 := box_next (hb2.mono (Nat.le_refl _)) hBA kA
      go_wp2
      go_ret
      exact ⟨ret_bool HB.out, by exact bl⟩
     ·cases h2 : inB e.left 0 2000
      ·have HB := Lib.hid (show false = R by rw [← HR.out, lvOk, HX.out, all_bad HE.out (by simp [lvlOk, h2])]; simp)
       go_wp2_with fail
       (refine wp_region_ext (by kernel_rfl) (by kernel_rfl) ?_; (repeat (go_big_quiet_step (first | (go_at_call 51; refine Calls.ext_of_same (l1In_any _ _ _ _))))); refine wpQuiet_nil ?_; intro w2 hb2; obtain ⟨hc2, hf2⟩ := bcell hb2; have hz2 := hb2.size; (try simp only [World.size_alloc, World.size_setCell, World.size_drew] at hz2))
       have kA1 := box_next (hb2.mono (Nat.le_refl _)) hBA kA
       go_wp2
       go_ret
       exact ⟨ret_bool HB.out, by exact bl⟩
      ·have HK2 := Lib.hid (show (ls.take (k + 1)).all (lvlOk n) = true by rw [all_snoc HE.out, HK.out]; simp [lvlOk, h1, h2])
       go_wp2_with fail
       (refine wp_region_ext (by kernel_rfl) (by kernel_rfl) ?_; (repeat (go_big_quiet_step (first | (go_at_call 51; refine Calls.ext_of_same (l1In_any _ _ _ _))))); refine wpQuiet_nil ?_; intro w2 hb2; obtain ⟨hc2, hf2⟩ := bcell hb2; have hz2 := hb2.size; (try simp only [World.size_alloc, World.size_setCell, World.size_drew] at hz2))
       have kA1 := box_next (hb2.mono (Nat.le_refl _)) hBA kA
       go_wp2
       go_roundw
       case rel => exact ⟨k + 1, by omega, by go_num, HK2, by exact bl, by omega, kA1⟩
       case measure => simp [intOf]; omega
    ·have hall : ls.all (lvlOk n) = true := by have := HK.out; rw [List.take_of_length_le (by rw [HL.out]; omega)] at this; exact this
     have HB := Lib.hid (show true = R by rw [← HR.out, lvOk, HX.out, hall, h0, HL.out]; simp [hdp])
     clear hall HR HK
     go_wp2
     go_ret
     exact ⟨ret_bool HB.out, by exact bl⟩
  ·have hd : decide ((d.p.deep : Int) < (m : Int)) = true := by simp; omega
   have HB := Lib.hid (show false = R by rw [← HR.out, lvOk, HL.out]; simp [hdp])
   go_wp2
   go_ret
   exact ⟨ret_bool HB.out, by exact bl⟩
end Go.Proofs.YtabdjimjelfbfaaGreat
namespace Go.Proofs.YtabdjimjelfbfaaGreat
set_option linter.unusedSimpArgs false
set_option linter.unusedVariables false
theorem lvOk_le {d : Dc} {xs : List Shp} {ls : List Lvl} (h : lvOk d xs ls = true) : ls.length ≤ 8 := by
 have h1 : planOk d.p xs = true ∧ (ls.length : Int) ≤ d.p.deep := by
  simp only [lvOk, Bool.and_eq_true, decide_eq_true_eq] at h
  exact ⟨h.1, h.2.1⟩
 have h2 := h1.1
 simp only [planOk, inB, Bool.and_eq_true, decide_eq_true_eq] at h2
 omega
theorem msr_le (d : Dc) (ls : List Lvl) : msr d ls ≤ 2 * ls.length + 1 := by unfold msr; repeat (first | split | omega)
theorem settleF_len : ∀ (f : Nat) (d : Dc) (ls : List Lvl), (settleF f d ls).2.1.length ≤ ls.length ∧ (settleF f d ls).2.2.length ≤ f
 | 0, _, _ => ⟨Nat.le_refl _, Nat.le_refl _⟩
 | f + 1, d, ls => by
  simp only [settleF]
  cases hc : closeS d ls with
  | none => exact ⟨Nat.le_refl _, Nat.zero_le _⟩
  | some x =>
   obtain ⟨d', ls', es⟩ := x
   have h1 := closeS_len hc
   have h2 := settleF_len f d' ls'
   simp only [List.length_append]
   omega
theorem settle_len (d : Dc) (ls : List Lvl) : (settle d ls).2.1.length ≤ ls.length ∧ (settle d ls).2.2.length ≤ 2 * ls.length + 2 := by
 have h1 := settleF_len (msr d ls + 1) d ls
 have h2 := msr_le d ls
 unfold settle
 omega
def frameE (u : Int) : Ev := ⟨1, 0, 0, u, ⟨#[]⟩, 0, 0⟩
def frameO (d : Dc) (xs : List Shp) (ls : List Lvl) (u : Int) : Outc :=
 if lvOk d xs ls = true then
  if d.p.most < u then failO (scan0 d) ls 7 d.start
  else behind [frameE u] (settle (modeD (scan0 d) 2) [⟨d.p.root, u⟩])
 else (d, ls, [])
def tagK (d : Dc) (f : Fld) (wi k : Int) : Dc := ⟨d.p, k, 0, 0, d.start, d.at_, f, wi, d.want, d.utf, d.end_⟩
def tagD (d : Dc) (f : Fld) (wi : Int) : Dc := tagK d f wi (if wi = 0 then 3 else if wi = 2 then 4 else 5)
def tagO (d : Dc) (xs : List Shp) (ls : List Lvl) (u : Int) : Outc :=
 if lvOk d xs ls = true then
  if u < 8 ∨ 536870911 < u / 8 ∨ ls = [] then failO (scan0 d) ls 2 d.start
  else if wireOk (u % 8) = false then failO (scan0 d) ls 3 d.start
  else if (fieldAt xs (((ls.getLast?).map Lvl.msg).getD 0) (u / 8)).2 = true ∧ allowed (fieldAt xs (((ls.getLast?).map Lvl.msg).getD 0) (u / 8)).1 (u % 8) = false then failO (scan0 d) ls 4 d.start
  else if topL ls < max (widthOf (u % 8)) 1 then failO (tagD d (fieldAt xs (((ls.getLast?).map Lvl.msg).getD 0) (u / 8)).1 (u % 8)) ls 9 d.at_
  else (tagD d (fieldAt xs (((ls.getLast?).map Lvl.msg).getD 0) (u / 8)).1 (u % 8), ls, [])
 else (d, ls, [])
section
variable {d : Dc} {xs : List Shp} {ls : List Lvl} {u : Int} {l : Lvl} {f : Fld} {kn : Bool}
theorem tagO_no (hok : lvOk d xs ls = false) : tagO d xs ls u = (d, ls, []) := by unfold tagO; rw [hok]; rfl
theorem tagO_bad (hok : lvOk d xs ls = true) (hb : u < 8 ∨ 536870911 < u / 8 ∨ ls = []) : tagO d xs ls u = failO (scan0 d) ls 2 d.start := by unfold tagO; rw [if_pos hok, if_pos hb]
theorem tagO_wire (hok : lvOk d xs ls = true) (hb : ¬ (u < 8 ∨ 536870911 < u / 8 ∨ ls = [])) (hw : wireOk (u % 8) = false) : tagO d xs ls u = failO (scan0 d) ls 3 d.start := by
 unfold tagO; rw [if_pos hok, if_neg hb, if_pos hw]
theorem tagO_kind (hok : lvOk d xs ls = true) (hb : ¬ (u < 8 ∨ 536870911 < u / 8 ∨ ls = [])) (hw : wireOk (u % 8) = true) (hl : ls.getLast? = some l) (hf : (f, kn) = fieldAt xs l.msg (u / 8)) (hk : kn = true) (ha : allowed f (u % 8) = false) : tagO d xs ls u = failO (scan0 d) ls 4 d.start := by
 unfold tagO
 rw [if_pos hok, if_neg hb, if_neg (by rw [hw]; simp)]
 simp only [hl, Option.map_some, Option.getD_some, ← hf]
 rw [if_pos ⟨hk, ha⟩]
theorem tagO_end (hok : lvOk d xs ls = true) (hb : ¬ (u < 8 ∨ 536870911 < u / 8 ∨ ls = [])) (hw : wireOk (u % 8) = true) (hl : ls.getLast? = some l) (hf : (f, kn) = fieldAt xs l.msg (u / 8)) (hk : ¬ (kn = true ∧ allowed f (u % 8) = false)) {k : Int} (hk2 : k = if u % 8 = 0 then 3 else if u % 8 = 2 then 4 else 5) (ht : topL ls < max (widthOf (u % 8)) 1) : tagO d xs ls u = failO (tagK d f (u % 8) k) ls 9 d.at_ := by
 unfold tagO
 rw [if_pos hok, if_neg hb, if_neg (by rw [hw]; simp)]
 simp only [hl, Option.map_some, Option.getD_some, ← hf]
 rw [if_neg hk, if_pos ht, tagD, hk2]
theorem tagO_ok (hok : lvOk d xs ls = true) (hb : ¬ (u < 8 ∨ 536870911 < u / 8 ∨ ls = [])) (hw : wireOk (u % 8) = true) (hl : ls.getLast? = some l) (hf : (f, kn) = fieldAt xs l.msg (u / 8)) (hk : ¬ (kn = true ∧ allowed f (u % 8) = false)) {k : Int} (hk2 : k = if u % 8 = 0 then 3 else if u % 8 = 2 then 4 else 5) (ht : ¬ topL ls < max (widthOf (u % 8)) 1) : tagO d xs ls u = (tagK d f (u % 8) k, ls, []) := by
 unfold tagO
 rw [if_pos hok, if_neg hb, if_neg (by rw [hw]; simp)]
 simp only [hl, Option.map_some, Option.getD_some, ← hf]
 rw [if_neg hk, if_neg ht, tagD, hk2]
end
def tagOk (u : Int) : Bool := decide (¬ (u < 8 ∨ 536870911 < u / 8))
def tagQ (u : Int) : Int := if tagOk u = true then u / 8 else 0
def tagV (u : Int) : Int := if tagOk u = true then u % 8 else 0
end Go.Proofs.YtabdjimjelfbfaaGreat

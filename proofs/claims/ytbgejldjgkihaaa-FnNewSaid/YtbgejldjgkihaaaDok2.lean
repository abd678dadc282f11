/- Tests on a decoder of which DecOk is made. -/
import Derived.Test.YtbgejldjgkihaaaDok
import Derived.Test.YtbgejldjgkihaaaToDec
import Derived.Test.YtbgejldjgkihaaaEvOk
import Derived.Test.YtbgejldjgkihaaaPlanOk
import Derived.Deep.MidRow
namespace Go.Proofs.Ytbgejldjgkihaaa
set_option linter.unusedSimpArgs false
set_option linter.unusedVariables false
open Go.ChangeShapes Go.WideShapes Go.ChangeAt Go.RowKit Go.BigFrame

theorem wpList_load_want {P : Program} {ops : Array Oper} {rest : List Oper} {op : Oper} {a : Act} {w : World} {Q : Exit → Act → World → Prop} (ty : TypeId) (x : Operand) (ho : op.op = .load ty x) (hw : Region.wanted op (yielded ops a.tmps) = true)
    (b o : Nat) (hx : a.eval x = .pointer (some ⟨b, o, none⟩)) (cs : List Value) (d : TypeDesc) (hc : w.rangeAt b o cs)
    (hu : P.underlying ty = some d) (hd : d.isRow = true) (hi : (P.info? ty).map (·.size) = some cs.length)
    (h : wpList P ops Q rest (a.put op.dst (.agg cs.toArray)) w) : wpList P ops Q (op :: rest) a w :=
  wpList_step fun K hK => by rw [if_pos hw]; exact wp_load_mid ty x ho b o hx cs d hc hu hd hi (hK _ _ h)
def topL (ls : List Lvl) : Int := match ls.getLast? with
  | none => 0
  | some l => l.left
theorem topL_nil : topL [] = 0 := rfl
theorem topL_snoc (ds : List Lvl) (l : Lvl) : topL (ds ++ [l]) = l.left := by simp [topL]
def widthD (d : Dc) : Int := if d.mode = 5 then widthOf d.wire else if d.mode = 8 then widthOf (wireOf d.field.kind) else 0
def known (f : Fld) (xs : List Shp) : Bool := (List.range xs.length).any fun i => decide (fieldAt xs i f.number = (f, true))
def lvlOk (n : Nat) (l : Lvl) : Bool := inB l.msg 0 (n - 1) && inB l.left 0 2000
set_option maxRecDepth 100000 in
theorem specTop_any (d : Dc) (a : Option Addr) (cap n : Nat) (xs : List Shp) (sa : Option Addr) (scap m : Nat) (ls : List Lvl) (w : World) (h : Shs w a xs) (h' : Lvls w sa ls) (hx : xs.length = n) (hl : ls.length = m) (hn : n ≤ 1048576) (hm : fldSum xs ≤ 1048576) (hm' : m ≤ 1048576) :
    Calls Try.prog 82 #[d.val (.slice a n cap) (.slice sa m scap)] w fun r w' => r = .returned (.int .i64 (topL ls)) ∧ Below w.heap.size w w' := by
  rcases List.eq_nil_or_concat ls with rfl | ⟨ds, l, rfl⟩
  · simp only [List.length_nil] at hl
    subst hl
    clear hx
    go_enter Try.func82, Try.ntmps82
    go_wp2
    go_ret
    exact ⟨rfl, by ((repeat (first | (with_reducible exact Below.refl _ _) | (with_reducible assumption) | (with_reducible refine Below.alloc ?_ ?_ _) | (with_reducible refine Below.setCell ?_ ?_ _) | (with_reducible refine Below.drew ?_) | (with_reducible refine below_setRow ?_ ?_ _) | (refine Below.trans ?_ (Below.mono (by assumption) ?_)))); all_goals (first | omega | (simp; done) | (simp; omega)))⟩
  · rw [List.concat_eq_append] at h' hl ⊢
    obtain ⟨p, hp⟩ : ∃ p, ds.length = p := ⟨_, rfl⟩
    rw [List.length_append, hp] at hl
    obtain rfl : m = p + 1 := hl.symm
    obtain ⟨b, off, rfl, hlb, c0, c1⟩ := Lvls.at h' (k := p) (e := l) (by rw [List.getElem?_append_right (by omega), hp]; simp)
    rw [topL_snoc]
    clear hx hl h' hp
    go_enter Try.func82, Try.ntmps82
    go_wp2
    go_ret
    exact ⟨rfl, by ((repeat (first | (with_reducible exact Below.refl _ _) | (with_reducible assumption) | (with_reducible refine Below.alloc ?_ ?_ _) | (with_reducible refine Below.setCell ?_ ?_ _) | (with_reducible refine Below.drew ?_) | (with_reducible refine below_setRow ?_ ?_ _) | (refine Below.trans ?_ (Below.mono (by assumption) ?_)))); all_goals (first | omega | (simp; done) | (simp; omega)))⟩
set_option maxRecDepth 100000 in
theorem specWidthD_any (d : Dc) (a : Option Addr) (cap n : Nat) (xs : List Shp) (sa : Option Addr) (scap m : Nat) (ls : List Lvl) (w : World) (h : Shs w a xs) (h' : Lvls w sa ls) (hx : xs.length = n) (hl : ls.length = m) (hn : n ≤ 1048576) (hm : fldSum xs ≤ 1048576) (hm' : m ≤ 1048576) :
    Calls Try.prog 129 #[d.val (.slice a n cap) (.slice sa m scap)] w fun r w' => r = .returned (.int .i64 (widthD d)) ∧ Below w.heap.size w w' := by
  clear hx hl
  by_cases h5 : d.mode = 5
  · have hr : widthD d = widthOf d.wire := by simp [widthD, h5]
    rw [hr]
    go_enter Try.func129, Try.ntmps129
    go_wp2_with (first
      | (go_at_call 83; refine (specWidthOf_any _ _).mono ?_; rintro r w1 ⟨rfl, rfl⟩))
    go_ret
    exact ⟨rfl, by ((repeat (first | (with_reducible exact Below.refl _ _) | (with_reducible assumption) | (with_reducible refine Below.alloc ?_ ?_ _) | (with_reducible refine Below.setCell ?_ ?_ _) | (with_reducible refine Below.drew ?_) | (with_reducible refine below_setRow ?_ ?_ _) | (refine Below.trans ?_ (Below.mono (by assumption) ?_)))); all_goals (first | omega | (simp; done) | (simp; omega)))⟩
  · by_cases h8 : d.mode = 8
    · have hr : widthD d = widthOf (wireOf d.field.kind) := by simp [widthD, h8]
      rw [hr]
      go_enter Try.func129, Try.ntmps129
      go_wp2_with (first
        | (go_at_call 83; refine (specWidthOf_any _ _).mono ?_; rintro r w1 ⟨rfl, rfl⟩)
        | (go_at_call 128; refine (specWireOf_any _ _).mono ?_; rintro r w1 ⟨rfl, hb1⟩; obtain ⟨hc1, hf1⟩ := bcell hb1; have hz1 := hb1.size; (try simp only [World.size_alloc, World.size_setCell, World.size_drew] at hz1); have hy1_0 : w.heap.size < w1.heap.size := by omega))
      go_ret
      exact ⟨rfl, by ((repeat (first | (with_reducible exact Below.refl _ _) | (with_reducible assumption) | (with_reducible refine Below.alloc ?_ ?_ _) | (with_reducible refine Below.setCell ?_ ?_ _) | (with_reducible refine Below.drew ?_) | (with_reducible refine below_setRow ?_ ?_ _) | (refine Below.trans ?_ (Below.mono (by assumption) ?_)))); all_goals (first | omega | (simp; done) | (simp; omega)))⟩
    · have hr : widthD d = 0 := by simp [widthD, h5, h8]
      rw [hr]
      go_enter Try.func129, Try.ntmps129
      go_wp2
      go_ret
      exact ⟨rfl, by ((repeat (first | (with_reducible exact Below.refl _ _) | (with_reducible assumption) | (with_reducible refine Below.alloc ?_ ?_ _) | (with_reducible refine Below.setCell ?_ ?_ _) | (with_reducible refine Below.drew ?_) | (with_reducible refine below_setRow ?_ ?_ _) | (refine Below.trans ?_ (Below.mono (by assumption) ?_)))); all_goals (first | omega | (simp; done) | (simp; omega)))⟩
set_option maxRecDepth 100000 in
theorem implTop_any (d : Dc) (a : Option Addr) (cap n : Nat) (xs : List Shp) (sa : Option Addr) (scap m : Nat) (ls : List Lvl) (w : World) (h : Shs w a xs) (h' : Lvls w sa ls) (hx : xs.length = n) (hl : ls.length = m) (hn : n ≤ 1048576) (hm : fldSum xs ≤ 1048576) (hm' : m ≤ 1048576) :
    Calls Try.prog 73 #[d.val (.slice a n cap) (.slice sa m scap)] w fun r w' => r = .returned (.int .i64 (topL ls)) ∧ Below w.heap.size w w' := by
  rcases List.eq_nil_or_concat ls with rfl | ⟨ds, l, rfl⟩
  · simp only [List.length_nil] at hl
    subst hl
    clear hx
    go_enter Try.func73, Try.ntmps73
    go_wp2
    go_ret
    exact ⟨rfl, by ((repeat (first | (with_reducible exact Below.refl _ _) | (with_reducible assumption) | (with_reducible refine Below.alloc ?_ ?_ _) | (with_reducible refine Below.setCell ?_ ?_ _) | (with_reducible refine Below.drew ?_) | (with_reducible refine below_setRow ?_ ?_ _) | (refine Below.trans ?_ (Below.mono (by assumption) ?_)))); all_goals (first | omega | (simp; done) | (simp; omega)))⟩
  · rw [List.concat_eq_append] at h' hl ⊢
    obtain ⟨p, hp⟩ : ∃ p, ds.length = p := ⟨_, rfl⟩
    rw [List.length_append, hp] at hl
    obtain rfl : m = p + 1 := hl.symm
    obtain ⟨b, off, rfl, hlb, c0, c1⟩ := Lvls.at h' (k := p) (e := l) (by rw [List.getElem?_append_right (by omega), hp]; simp)
    rw [topL_snoc]
    clear hx hl h' hp
    go_enter Try.func73, Try.ntmps73
    go_wp2
    go_ret
    exact ⟨rfl, by ((repeat (first | (with_reducible exact Below.refl _ _) | (with_reducible assumption) | (with_reducible refine Below.alloc ?_ ?_ _) | (with_reducible refine Below.setCell ?_ ?_ _) | (with_reducible refine Below.drew ?_) | (with_reducible refine below_setRow ?_ ?_ _) | (refine Below.trans ?_ (Below.mono (by assumption) ?_)))); all_goals (first | omega | (simp; done) | (simp; omega)))⟩
set_option maxRecDepth 100000 in
theorem implWidthD_any (d : Dc) (a : Option Addr) (cap n : Nat) (xs : List Shp) (sa : Option Addr) (scap m : Nat) (ls : List Lvl) (w : World) (h : Shs w a xs) (h' : Lvls w sa ls) (hx : xs.length = n) (hl : ls.length = m) (hn : n ≤ 1048576) (hm : fldSum xs ≤ 1048576) (hm' : m ≤ 1048576) :
    Calls Try.prog 126 #[d.val (.slice a n cap) (.slice sa m scap)] w fun r w' => r = .returned (.int .i64 (widthD d)) ∧ Below w.heap.size w w' := by
  clear hx hl
  by_cases h5 : d.mode = 5
  · have hr : widthD d = widthOf d.wire := by simp [widthD, h5]
    rw [hr]
    go_enter Try.func126, Try.ntmps126
    go_wp2_with (first
      | (go_at_call 125; refine (implWidthOf_any _ _).mono ?_; rintro r w1 ⟨rfl, rfl⟩))
    go_ret
    exact ⟨rfl, by ((repeat (first | (with_reducible exact Below.refl _ _) | (with_reducible assumption) | (with_reducible refine Below.alloc ?_ ?_ _) | (with_reducible refine Below.setCell ?_ ?_ _) | (with_reducible refine Below.drew ?_) | (with_reducible refine below_setRow ?_ ?_ _) | (refine Below.trans ?_ (Below.mono (by assumption) ?_)))); all_goals (first | omega | (simp; done) | (simp; omega)))⟩
  · by_cases h8 : d.mode = 8
    · have hr : widthD d = widthOf (wireOf d.field.kind) := by simp [widthD, h8]
      rw [hr]
      go_enter Try.func126, Try.ntmps126
      go_wp2_with (first
        | (go_at_call 125; refine (implWidthOf_any _ _).mono ?_; rintro r w1 ⟨rfl, rfl⟩)
        | (go_at_call 166; refine (implWireOf_any _ _).mono ?_; rintro r w1 ⟨rfl, hb1⟩; obtain ⟨hc1, hf1⟩ := bcell hb1; have hz1 := hb1.size; (try simp only [World.size_alloc, World.size_setCell, World.size_drew] at hz1); have hy1_0 : w.heap.size < w1.heap.size := by omega))
      go_ret
      exact ⟨rfl, by ((repeat (first | (with_reducible exact Below.refl _ _) | (with_reducible assumption) | (with_reducible refine Below.alloc ?_ ?_ _) | (with_reducible refine Below.setCell ?_ ?_ _) | (with_reducible refine Below.drew ?_) | (with_reducible refine below_setRow ?_ ?_ _) | (refine Below.trans ?_ (Below.mono (by assumption) ?_)))); all_goals (first | omega | (simp; done) | (simp; omega)))⟩
    · have hr : widthD d = 0 := by simp [widthD, h5, h8]
      rw [hr]
      go_enter Try.func126, Try.ntmps126
      go_wp2
      go_ret
      exact ⟨rfl, by ((repeat (first | (with_reducible exact Below.refl _ _) | (with_reducible assumption) | (with_reducible refine Below.alloc ?_ ?_ _) | (with_reducible refine Below.setCell ?_ ?_ _) | (with_reducible refine Below.drew ?_) | (with_reducible refine below_setRow ?_ ?_ _) | (refine Below.trans ?_ (Below.mono (by assumption) ?_)))); all_goals (first | omega | (simp; done) | (simp; omega)))⟩
end Go.Proofs.Ytbgejldjgkihaaa

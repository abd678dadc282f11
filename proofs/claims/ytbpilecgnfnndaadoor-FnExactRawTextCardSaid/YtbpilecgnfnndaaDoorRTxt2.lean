/- Texts that RawTextL leans on, part 2. (Put together by wip/tools/bundle.py.) -/
import Derived.Laws.IdiomStrings
import Derived.Maps.AppendAt
import Derived.Laws.AppendOwnNone
import Derived.Deep.AppendLies
import Derived.Laws.Tables
import Derived.Lib.Join
import Derived.Test.YtbpilecgnfnndaaDoorRTxt1
namespace Go.Proofs.YtbpilecgnfnndaaDoor
set_option linter.unusedSimpArgs false
set_option linter.unusedVariables false
open Go.ChangeShapes Go.WideShapes Go.ChangeAt Go.RowKit Go.BigFrame
@[reducible] def fldCK : List CK := [CK.int .i64, .int .i64, .bool, .bool, .int .i64]
@[reducible] def shpCK : List CK := [CK.int .i64, .sl fldCK]
structure ShArg where
  a : Option Addr
  cap : Nat
  xs : List Shp
@[reducible] def ShArg.sl (x : ShArg) : Value := .slice x.a x.xs.length x.cap
structure ShArg.ok (x : ShArg) (w : World) : Prop where
  sh : Shs w x.a x.xs
  each : ∀ e ∈ x.xs, ShpOk e
  le : x.xs.length ≤ x.cap
  cap : x.cap ≤ maxLen
def ShROk (w : World) (r : ShR) : Prop := ∃ x : Shp, r.id = x.id ∧ r.n = x.flds.length ∧ Flds w r.a x.flds ∧ ShpOk x
theorem shs_open {w : World} {v : Value} {N : Nat} (h : (CK.sl shpCK).ok w (N + 3) v) : ∃ x : ShArg, v = x.sl ∧ x.ok w := by
  obtain ⟨y, rfl, hy⟩ := sl_open (sz := 2) (α := ShR) (cs := ShR.cs) (OK := ShROk w) (N := N + 2) h rfl (by omega) shR_len (fun l hl hj => by
    match l, hl with
    | [c0, c1], _ =>
      obtain ⟨x0, e0, h0⟩ := hj 0 _ rfl
      obtain ⟨x1, e1, h1⟩ := hj 1 _ rfl
      obtain ⟨n0, rfl, w0⟩ := ok_int (w := w) (h0 : (CK.int .i64).ok w 1 x0)
      simp at e0 e1
      subst e0; subst e1
      obtain ⟨z, rfl, hz⟩ := sl_open (sz := 5) (α := Fld) (cs := Fld.cs) (OK := Fld.ok) (N := N + 1) h1 rfl (by omega) fld_len (fun l hl hj => fld_of_cells (w := w) hl (fun j ck hc => by
        obtain ⟨u, hu, hok⟩ := hj j ck hc
        refine ⟨u, hu, ?_⟩
        match j, hc with
        | 0, hc => simp at hc; subst hc; exact hok
        | 1, hc => simp at hc; subst hc; exact hok
        | 2, hc => simp at hc; subst hc; exact hok
        | 3, hc => simp at hc; subst hc; exact hok
        | 4, hc => simp at hc; subst hc; exact hok
        | j + 5, hc => simp at hc))
      exact ⟨⟨n0, z.a, z.xs.length, z.cap⟩, rfl, ⟨n0, z.xs⟩, rfl, rfl, hz.sl, ⟨w0, Nat.le_trans hz.le hz.cap, hz.each⟩⟩)
  obtain ⟨a, cap, rs⟩ := y
  obtain ⟨xs, hl, hx⟩ := list_of (α := Shp) (p := fun i x => ∃ r, rs[i]? = some r ∧ r.id = x.id ∧ r.n = x.flds.length ∧ Flds w r.a x.flds ∧ ShpOk x) rs.length (fun i hi => by
    obtain ⟨x, h1⟩ := hy.each rs[i] (List.getElem_mem hi)
    exact ⟨x, rs[i], List.getElem?_eq_getElem hi, h1⟩)
  refine ⟨⟨a, cap, xs⟩, by simp [SlArg.val, ShArg.sl, hl], ⟨?_, ?_, by have := hy.le; simp only at this ⊢; omega, hy.cap⟩⟩
  · intro k x hk
    obtain ⟨r, hr, h1, h2, h3, _⟩ := hx k x hk
    obtain ⟨b, off, ha, hlt, hc⟩ := hy.sl k r hr
    have c0 := hc 0 _ rfl
    have c1 := hc 1 _ rfl
    rw [h1] at c0
    rw [h2] at c1
    exact ⟨b, off, r.a, r.cap, ha, hlt, c0, c1, h3⟩
  · intro x hxm
    obtain ⟨k, hk, rfl⟩ := List.getElem_of_mem hxm
    obtain ⟨r, _, _, _, _, h⟩ := hx k _ (List.getElem?_eq_getElem hk)
    exact h
section
variable {H : Type} {enc : TypeId × Value → H} {W : World} {base : Nat} {sp : Nat → Bool} {v : Value} {d : DataW H} {ps : List MemPlace}
end
structure Lvl where
  msg : Int
  left : Int
  deriving DecidableEq
@[reducible] def Lvl.cs (f : Lvl) : List Value := [.int .i64 f.msg, .int .i64 f.left]
@[reducible] def Lvl.val (f : Lvl) : Value := .agg #[.int .i64 f.msg, .int .i64 f.left]
structure Lvl.ok (f : Lvl) : Prop where
  msg : W64 f.msg
  left : W64 f.left
@[reducible] def Lvls := Sl 2 Lvl.cs
theorem Lvls.at {w : World} {a : Option Addr} {xs : List Lvl} (h : Lvls w a xs) {k : Nat} {e : Lvl} (he : xs[k]? = some e) :
    ∃ b off, a = some ⟨b, off, none⟩ ∧ b < w.heap.size ∧ w.cell? ⟨b, off + k * 2, none⟩ = some (.int .i64 e.msg) ∧ w.cell? ⟨b, off + k * 2 + 1, none⟩ = some (.int .i64 e.left) := by
  obtain ⟨b, off, ha, hlt, hc⟩ := h k e he
  exact ⟨b, off, ha, hlt, hc 0 _ rfl, hc 1 _ rfl⟩
structure Ut where
  want : Int
  low : Int
  high : Int
  deriving DecidableEq
@[reducible] def Ut.val (u : Ut) : Value := .agg #[.int .i64 u.want, .int .i64 u.low, .int .i64 u.high]
structure Dc where
  p : Pl
  mode : Int
  bits : Int
  have_ : Int
  start : Int
  at_ : Int
  field : Fld
  wire : Int
  want : Int
  utf : Ut
  end_ : Ev
  deriving DecidableEq
@[reducible] def Dc.val (d : Dc) (sh st : Value) : Value := .agg #[sh, .int .i64 d.p.root, .int .i64 d.p.deep, .int .i64 d.p.most, .int .i64 d.mode, st, .int .u64 d.bits, .int .i64 d.have_, .int .i64 d.start, .int .i64 d.at_, .int .i64 d.field.number, .int .i64 d.field.kind, .bool d.field.rep, .bool d.field.packed, .int .i64 d.field.msg, .int .i64 d.wire, .int .i64 d.want, .int .i64 d.utf.want, .int .i64 d.utf.low, .int .i64 d.utf.high, .int .i64 d.end_.kind, .int .i64 d.end_.field, .int .u64 d.end_.bits, .int .i64 d.end_.len, .string d.end_.text, .int .i64 d.end_.code, .int .i64 d.end_.at_]
@[reducible] def Dc.cl (d : Dc) (sh st : Value) : List Value := [sh, .int .i64 d.p.root, .int .i64 d.p.deep, .int .i64 d.p.most, .int .i64 d.mode, st, .int .u64 d.bits, .int .i64 d.have_, .int .i64 d.start, .int .i64 d.at_, .int .i64 d.field.number, .int .i64 d.field.kind, .bool d.field.rep, .bool d.field.packed, .int .i64 d.field.msg, .int .i64 d.wire, .int .i64 d.want, .int .i64 d.utf.want, .int .i64 d.utf.low, .int .i64 d.utf.high, .int .i64 d.end_.kind, .int .i64 d.end_.field, .int .u64 d.end_.bits, .int .i64 d.end_.len, .string d.end_.text, .int .i64 d.end_.code, .int .i64 d.end_.at_]
structure Dc.ok (d : Dc) : Prop where
  root : W64 d.p.root
  deep : W64 d.p.deep
  most : W64 d.p.most
  mode : W64 d.mode
  bits : WU64 d.bits
  have_ : W64 d.have_
  start : W64 d.start
  at_ : W64 d.at_
  field : d.field.ok
  wire : W64 d.wire
  want : W64 d.want
  uwant : W64 d.utf.want
  ulow : W64 d.utf.low
  uhigh : W64 d.utf.high
  end_ : d.end_.ok
@[reducible] def lvlCK : List CK := [CK.int .i64, .int .i64]
structure DcArg where
  d : Dc
  s : ShArg
  l : SlArg Lvl
@[reducible] def DcArg.val (x : DcArg) : Value := x.d.val x.s.sl x.l.val
structure DcArg.ok (x : DcArg) (w : World) : Prop where
  d : x.d.ok
  s : x.s.ok w
  l : x.l.ok 2 Lvl.cs Lvl.ok w
@[reducible] def bv (l : List UInt8) : List Value := l.map fun b => Value.int .u8 (b.toNat : Int)
structure Chg (lo hi : Nat) (w w' : World) : Prop where
  os : w'.os = w.os
  tape : w'.tape = w.tape
  output : w'.output = w.output
  size : w.heap.size ≤ w'.heap.size
  block : ∀ k, k < w.heap.size → (k < lo ∨ hi ≤ k) → w'.heap[k]? = w.heap[k]?
theorem Chg.refl (lo hi : Nat) (w : World) : Chg lo hi w w := ⟨rfl, rfl, rfl, Nat.le_refl _, fun _ _ _ => rfl⟩
theorem Chg.trans {lo hi : Nat} {a b c : World} (h : Chg lo hi a b) (k : Chg lo hi b c) : Chg lo hi a c :=
  ⟨k.os.trans h.os, k.tape.trans h.tape, k.output.trans h.output, Nat.le_trans h.size k.size, fun i hi' ho => (k.block i (Nat.lt_of_lt_of_le hi' h.size) ho).trans (h.block i hi' ho)⟩
theorem Chg.of_below {lo hi : Nat} {w w' : World} (h : Below w.heap.size w w') : Chg lo hi w w' := ⟨h.os, h.tape, h.output, h.size, fun k hk _ => h.block k hk⟩
theorem Chg.below {lo hi : Nat} {w w' : World} (h : Chg lo hi w w') (hl : lo ≤ w.heap.size) : Below lo w w' := ⟨h.os, h.tape, h.output, h.size, fun k hk => h.block k (by omega) (.inl hk)⟩
theorem Chg.setCell {lo hi b o : Nat} {w : World} (h1 : lo ≤ b) (h2 : b < hi) (u : Value) : Chg lo hi w (w.setCell ⟨b, o, none⟩ u) :=
  ⟨rfl, rfl, rfl, by simp [World.setCell], fun k _ hk => Below.heap_setCell w ⟨b, o, none⟩ u k (by simp only; omega)⟩
structure OwnR (w : World) (lo hi : Nat) (a : Option Addr) (n : Nat) (L : List Value) : Prop where
  len : L.length = n
  own : n = 0 ∨ ∃ g, a = some ⟨g, 0, none⟩ ∧ lo ≤ g ∧ g < hi ∧ g < w.heap.size ∧ (∀ (j : Nat) (u : Value), L[j]? = some u → w.cell? ⟨g, j, none⟩ = some u) ∧ (∀ j : Nat, w.frozen? ⟨g, j, none⟩ = false)
theorem OwnR.of_owns {w : World} {base n cap : Nat} {t : TypeId} {a : Option Addr} {L : List Value} (h : w.ownsRow base t 1 (.slice a n cap) n L) : OwnR w base w.heap.size a n L := by
  have hlen : L.length = n := by have := h.1; omega
  refine ⟨hlen, ?_⟩
  have hl := h.lt
  have hc : ∀ g, (Value.slice a n cap).ownBlock = some g → _ := fun g hg => World.ownsRow.cells h hg
  rcases h.2 with ⟨e, h0⟩ | ⟨g, cap', cur, e, hb, hh, _⟩
  · exact .inl h0
  · simp only [Value.slice.injEq] at e
    obtain ⟨rfl, _, rfl⟩ := e
    have h1 := hl g rfl
    exact .inr ⟨g, rfl, h1.1, h1.2, h1.2, fun j u hu => by have := hc g rfl j u hu; rwa [Addr.add_lit, Nat.zero_add] at this, h.frozenAt⟩
theorem OwnR.chg {w w' : World} {lo hi lo' hi' n : Nat} {a : Option Addr} {L : List Value} (h : OwnR w lo hi a n L) (hc : Chg lo' hi' w w') (hd : hi ≤ lo' ∨ hi' ≤ lo) : OwnR w' lo hi a n L := by
  refine ⟨h.len, ?_⟩
  rcases h.own with h0 | ⟨g, ha, h1, h2, h3, h4, h5⟩
  · exact .inl h0
  · have hb := hc.block g h3 (by omega)
    exact .inr ⟨g, ha, h1, h2, Nat.lt_of_lt_of_le h3 hc.size, fun j u hu => (World.cell?_of_block (a := ⟨g, j, none⟩) hb).trans (h4 j u hu), fun j => (World.frozen?_of_block (a := ⟨g, j, none⟩) hb).trans (h5 j)⟩
theorem OwnR.keep {w w' : World} {lo hi n : Nat} {a : Option Addr} {L : List Value} (h : OwnR w lo hi a n L) (hb : Below w.heap.size w w') : OwnR w' lo hi a n L :=
  h.chg (Chg.of_below (lo := hi) (hi := hi) hb) (.inl (Nat.le_refl _))
theorem OwnR.store {w : World} {lo hi n g j : Nat} {L : List Value} (h : OwnR w lo hi (some ⟨g, 0, none⟩) n L) (hj : j < n) (u : Value) : OwnR (w.setCell ⟨g, j, none⟩ u) lo hi (some ⟨g, 0, none⟩) n (L.set j u) := by
  refine ⟨by rw [List.length_set, h.len], ?_⟩
  rcases h.own with h0 | ⟨g', ha, h1, h2, h3, h4, h5⟩
  · omega
  · simp only [Option.some.injEq, Addr.mk.injEq, and_true] at ha
    subst ha
    refine .inr ⟨g, rfl, h1, h2, by simpa [World.setCell] using h3, fun i v hv => ?_, fun i => by rw [World.frozen?_setCell]; exact h5 i⟩
    rw [List.getElem?_set] at hv
    by_cases hij : j = i
    · subst hij
      rw [if_pos rfl, if_pos (by rw [h.len]; exact hj)] at hv
      simp only [Option.some.injEq] at hv
      subst hv
      exact World.cell?_setCell_same _ _ _ (h4 j L[j]! (by rw [List.getElem?_eq_getElem (by rw [h.len]; exact hj)]; simp [h.len, hj]))
    · rw [if_neg hij] at hv
      rw [World.cell?_setCell_other _ _ _ _ (by simp [hij])]
      exact h4 i v hv
theorem OwnR.sl {α : Type} {cs : α → List Value} {w : World} {lo hi n : Nat} {a : Option Addr} {xs : List α} (hcs : ∀ x, (cs x).length = 1) (h : OwnR w lo hi a n (xs.flatMap cs)) : Sl 1 cs w a xs := by
  intro k e he
  have hk : k < xs.length := by
    rcases Nat.lt_or_ge k xs.length with h' | h'
    · exact h'
    · rw [List.getElem?_eq_none h'] at he; simp at he
  rcases h.own with h0 | ⟨g, ha, h1, h2, h3, h4, h5⟩
  · have := h.len; rw [flatMap_len hcs] at this; omega
  · refine ⟨g, 0, ha, h3, fun j u hu => ?_⟩
    have hj : j = 0 := by
      rcases Nat.lt_or_ge j 1 with h' | h'
      · omega
      · rw [List.getElem?_eq_none (by rw [hcs]; exact h')] at hu; simp at hu
    subst hj
    have := h4 (k * 1 + 0) u (by rw [flatMap_at hcs xs k 0 e he (by omega)]; exact hu)
    simpa using this
theorem OwnR.slK {α : Type} {cs : α → List Value} {sz : Nat} {w : World} {lo hi n : Nat} {a : Option Addr} {xs : List α} (hsz : 0 < sz) (hcs : ∀ x, (cs x).length = sz) (h : OwnR w lo hi a (n * sz) (xs.flatMap cs)) : Sl sz cs w a xs := by
  intro k e he
  have hk : k < xs.length := by
    rcases Nat.lt_or_ge k xs.length with h' | h'
    · exact h'
    · rw [List.getElem?_eq_none h'] at he; simp at he
  have hlen := h.len
  rw [flatMap_len hcs] at hlen
  rcases h.own with h0 | ⟨g, ha, h1, h2, h3, h4, h5⟩
  · have : 0 < xs.length * sz := Nat.mul_pos (by omega) hsz
    omega
  · refine ⟨g, 0, ha, h3, fun j u hu => ?_⟩
    have hj : j < sz := by
      rcases Nat.lt_or_ge j sz with h' | h'
      · exact h'
      · rw [List.getElem?_eq_none (by rw [hcs]; exact h')] at hu; simp at hu
    have := h4 (k * sz + j) u (by rw [flatMap_at hcs xs k j e he hj]; exact hu)
    simpa using this
theorem OwnR.chg1 {w w' : World} {lo hi g e n : Nat} {a : Option Addr} {L : List Value} (h : OwnR w lo hi a n L) (hc : Chg g e w w') (hd : ∀ b, a = some ⟨b, 0, none⟩ → n ≠ 0 → b < g ∨ e ≤ b) : OwnR w' lo hi a n L := by
  refine ⟨h.len, ?_⟩
  by_cases hn : n = 0
  · exact .inl hn
  rcases h.own with h0 | ⟨b, ha, h1, h2, h3, h4, h5⟩
  · exact .inl h0
  · have hb := hc.block b h3 (hd b ha hn)
    exact .inr ⟨b, ha, h1, h2, Nat.lt_of_lt_of_le h3 hc.size, fun j u hu => (World.cell?_of_block (a := ⟨b, j, none⟩) hb).trans (h4 j u hu), fun j => (World.frozen?_of_block (a := ⟨b, j, none⟩) hb).trans (h5 j)⟩
structure OwnSh (w : World) (lo hi : Nat) (a : Option Addr) (n : Nat) (rs : List ShR) (xs : List Shp) : Prop where
  le : lo ≤ hi
  len : rs.length = n
  lenx : xs.length = n
  outer : OwnR w lo hi a (n * 2) (rs.flatMap ShR.cs)
  each : ∀ (k : Nat) (r : ShR) (x : Shp), rs[k]? = some r → xs[k]? = some x → r.id = x.id ∧ r.n = x.flds.length ∧ OwnR w lo hi r.a (r.n * 5) (x.flds.flatMap Fld.cs)
  apart : ∀ (i j : Nat) (r s : ShR) (g : Nat), rs[i]? = some r → rs[j]? = some s → i ≠ j → r.n ≠ 0 → s.n ≠ 0 → r.a = some ⟨g, 0, none⟩ → s.a ≠ some ⟨g, 0, none⟩
  off : ∀ (i : Nat) (r : ShR) (g : Nat), rs[i]? = some r → r.n ≠ 0 → a = some ⟨g, 0, none⟩ → r.a ≠ some ⟨g, 0, none⟩
def ShBlk (a : Option Addr) (n : Nat) (rs : List ShR) (b : Nat) : Prop := n ≠ 0 ∧ a = some ⟨b, 0, none⟩ ∨ ∃ (i : Nat) (r : ShR), rs[i]? = some r ∧ r.n ≠ 0 ∧ r.a = some ⟨b, 0, none⟩
section
variable {w w' : World} {lo hi n : Nat} {a : Option Addr} {rs : List ShR} {xs : List Shp}
theorem OwnSh.at (h : OwnSh w lo hi a n rs xs) {k : Nat} (hk : k < n) : ∃ r x, rs[k]? = some r ∧ xs[k]? = some x :=
  ⟨_, _, List.getElem?_eq_getElem (by rw [h.len]; exact hk), List.getElem?_eq_getElem (by rw [h.lenx]; exact hk)⟩
theorem OwnSh.shs (h : OwnSh w lo hi a n rs xs) : Shs w a xs := by
  intro k x hx
  have hk : k < n := by
    rcases Nat.lt_or_ge k xs.length with h' | h'
    · rw [← h.lenx]; exact h'
    · rw [List.getElem?_eq_none h'] at hx; simp at hx
  obtain ⟨r, x', hr, hx'⟩ := h.at hk
  rw [hx] at hx'; simp at hx'; subst hx'
  obtain ⟨e1, e2, e3⟩ := h.each k r x hr hx
  obtain ⟨b, off, ha, hlt, hc⟩ := OwnR.slK (by omega) shR_len h.outer k r hr
  have c0 := hc 0 _ rfl
  have c1 := hc 1 _ rfl
  rw [e1] at c0
  rw [e2] at c1
  exact ⟨b, off, r.a, r.cap, ha, hlt, c0, c1, by rw [e2] at e3; exact OwnR.slK (by omega) fld_len e3⟩
theorem OwnSh.chgB (h : OwnSh w lo hi a n rs xs) {g e : Nat} (hc : Chg g e w w') (hd : ∀ b, ShBlk a n rs b → b < g ∨ e ≤ b) : OwnSh w' lo hi a n rs xs where
  le := h.le
  len := h.len
  lenx := h.lenx
  outer := h.outer.chg1 hc fun b hb hn => hd b (.inl ⟨by omega, hb⟩)
  each k r x hr hx := ⟨(h.each k r x hr hx).1, (h.each k r x hr hx).2.1, (h.each k r x hr hx).2.2.chg1 hc fun b hb hn => hd b (.inr ⟨k, r, hr, by omega, hb⟩)⟩
  apart := h.apart
  off := h.off
theorem OwnSh.blk (h : OwnSh w lo hi a n rs xs) {b : Nat} (hb : ShBlk a n rs b) : lo ≤ b ∧ b < hi := by
  rcases hb with ⟨hn, ha⟩ | ⟨i, r, hr, hn, ha⟩
  · rcases h.outer.own with h0 | ⟨g, hg, h1, h2, _⟩
    · omega
    · rw [hg] at ha; simp at ha; subst ha; exact ⟨h1, h2⟩
  · have hi' : i < n := by
      rcases Nat.lt_or_ge i rs.length with h' | h'
      · rw [← h.len]; exact h'
      · rw [List.getElem?_eq_none h'] at hr; simp at hr
    obtain ⟨x, hx⟩ : ∃ x, xs[i]? = some x := ⟨_, List.getElem?_eq_getElem (by rw [h.lenx]; exact hi')⟩
    rcases (h.each i r x hr hx).2.2.own with h0 | ⟨g, hg, h1, h2, _⟩
    · omega
    · rw [hg] at ha; simp at ha; subst ha; exact ⟨h1, h2⟩
theorem OwnSh.chg (h : OwnSh w lo hi a n rs xs) {lo' hi' : Nat} (hc : Chg lo' hi' w w') (hd : hi ≤ lo' ∨ hi' ≤ lo) : OwnSh w' lo hi a n rs xs :=
  h.chgB hc fun b hb => by have := h.blk hb; omega
theorem OwnSh.keep (h : OwnSh w lo hi a n rs xs) (hb : Below w.heap.size w w') : OwnSh w' lo hi a n rs xs :=
  h.chg (Chg.of_below (lo := hi) (hi := hi) hb) (.inl (Nat.le_refl _))
end
structure ChgB (P : Nat → Prop) (w w' : World) : Prop where
  os : w'.os = w.os
  tape : w'.tape = w.tape
  output : w'.output = w.output
  size : w.heap.size ≤ w'.heap.size
  block : ∀ k, k < w.heap.size → ¬ P k → w'.heap[k]? = w.heap[k]?
theorem ChgB.refl (P : Nat → Prop) (w : World) : ChgB P w w := ⟨rfl, rfl, rfl, Nat.le_refl _, fun _ _ _ => rfl⟩
theorem ChgB.trans {P : Nat → Prop} {a b c : World} (h : ChgB P a b) (k : ChgB P b c) : ChgB P a c :=
  ⟨k.os.trans h.os, k.tape.trans h.tape, k.output.trans h.output, Nat.le_trans h.size k.size, fun i hi' ho => (k.block i (Nat.lt_of_lt_of_le hi' h.size) ho).trans (h.block i hi' ho)⟩
theorem OwnR.chgB {P : Nat → Prop} {w w' : World} {lo hi n : Nat} {a : Option Addr} {L : List Value} (h : OwnR w lo hi a n L) (hc : ChgB P w w') (hd : ∀ b, a = some ⟨b, 0, none⟩ → n ≠ 0 → ¬ P b) : OwnR w' lo hi a n L := by
  refine ⟨h.len, ?_⟩
  by_cases hn : n = 0
  · exact .inl hn
  rcases h.own with h0 | ⟨b, ha, h1, h2, h3, h4, h5⟩
  · exact .inl h0
  · have hb := hc.block b h3 (hd b ha hn)
    exact .inr ⟨b, ha, h1, h2, Nat.lt_of_lt_of_le h3 hc.size, fun j u hu => (World.cell?_of_block (a := ⟨b, j, none⟩) hb).trans (h4 j u hu), fun j => (World.frozen?_of_block (a := ⟨b, j, none⟩) hb).trans (h5 j)⟩
def SameR (rs rs' : List ShR) : Prop := ∀ (i : Nat) (r' : ShR), rs'[i]? = some r' → ∃ r, rs[i]? = some r ∧ r'.a = r.a ∧ r'.n = r.n
theorem SameR.refl (rs : List ShR) : SameR rs rs := fun i r h => ⟨r, h, rfl, rfl⟩
theorem SameR.blk {rs rs' : List ShR} (h : SameR rs rs') {a : Option Addr} {n b : Nat} (hb : ShBlk a n rs' b) : ShBlk a n rs b := by
  rcases hb with hb | ⟨i, r, hr, hn, ha⟩
  · exact .inl hb
  · obtain ⟨r0, h0, h1, h2⟩ := h i r hr
    exact .inr ⟨i, r0, h0, by omega, by rw [← h1]; exact ha⟩
theorem SameR.set {rs rs' : List ShR} (h : SameR rs rs') {k : Nat} {r : ShR} (hr : rs'[k]? = some r) (q : Int) : SameR rs (rs'.set k ⟨q, r.a, r.n, r.cap⟩) := by
  intro i s hs
  rw [List.getElem?_set] at hs
  by_cases hik : k = i
  · subst hik
    rw [if_pos rfl] at hs
    split at hs
    · simp at hs; subst hs
      obtain ⟨r0, h0, h1, h2⟩ := h k r hr
      exact ⟨r0, h0, h1, h2⟩
    · simp at hs
  · rw [if_neg hik] at hs
    exact h i s hs
theorem own_sh {w : World} {base n size : Nat} {t : TypeId} {v : Value} {L : List Value} (h : w.ownsRow base t size v n L) : ∃ a cap, v = .slice a n cap ∧ w.ownsRow base t size (.slice a n cap) n L := by
  rcases h.2 with ⟨rfl, h0⟩ | ⟨g, cap', cur, rfl, _⟩
  · subst h0; exact ⟨none, 0, rfl, h⟩
  · exact ⟨_, _, rfl, h⟩
def ShsC (w : World) (a : Option Addr) (xs : List Shp) : Prop :=
  ∀ (k : Nat) (x : Shp), xs[k]? = some x → ∃ b off a' cap', a = some ⟨b, off, none⟩ ∧ b < w.heap.size ∧ w.cell? ⟨b, off + k * 2, none⟩ = some (.int .i64 x.id) ∧ w.cell? ⟨b, off + k * 2 + 1, none⟩ = some (.slice a' x.flds.length cap') ∧ Flds w a' x.flds ∧ (a' = none → cap' = 0)
theorem ShsC.shs {w : World} {a : Option Addr} {xs : List Shp} (h : ShsC w a xs) : Shs w a xs := fun k x hx => by
  obtain ⟨b, off, a', cap', h1, h2, h3, h4, h5, _⟩ := h k x hx
  exact ⟨b, off, a', cap', h1, h2, h3, h4, h5⟩
theorem ShsC.keep {w w' : World} {a : Option Addr} {xs : List Shp} (h : ShsC w a xs) (hb : Below w.heap.size w w') : ShsC w' a xs := fun k x hx => by
  obtain ⟨b, off, a', cap', h1, h2, h3, h4, h5, h6⟩ := h k x hx
  exact ⟨b, off, a', cap', h1, Nat.lt_of_lt_of_le h2 hb.size, (hb.cell (p := ⟨b, _, none⟩) h2).trans h3, (hb.cell (p := ⟨b, _, none⟩) h2).trans h4, Sl.keep h5 hb, h6⟩
theorem OwnShs.nil (w : World) (base : Nat) (T TF : TypeId) : OwnShs w base T TF (.slice none 0 0) 0 [] [] :=
  ⟨rfl, rfl, World.ownsRow_nil _ _ _ _, fun k r x h => by simp at h, Apart.nil⟩
section
variable {P : Program} {ops : Array Oper} {Q : Exit → Act → World → Prop} {md : Region.Mode} {S : World → Prop} {D : Nat → Bool}
end
def Cells (l : List (Addr × Value)) (w : World) : Prop := ∀ q ∈ l, w.cell? q.1 = some q.2
theorem cell_alloc {w : World} {p : Addr} {v : Value} (o : Obj) (h : w.cell? p = some v) : (w.alloc o).cell? p = some v := by rw [World.cell?_alloc_some w p o (by rw [h]; rfl)]; exact h
theorem cell_grown {w w' : World} {p : Addr} {v : Value} {row : Option Nat} (hg : w.grownBy w' row) (h : w.cell? p = some v) (hne : row ≠ some p.block) : w'.cell? p = some v := by
  rw [World.cell?_of_block (a := p) (hg.block p.block (World.block_lt_of_cell? w _ h) (fun e => hne e.symm))]; exact h
theorem Cells.drew {l : List (Addr × Value)} {w : World} (h : Cells l w) : Cells l w.drew := fun q hq => h q hq
theorem Cells.alloc {l : List (Addr × Value)} {w : World} (h : Cells l w) (o : Obj) : Cells l (w.alloc o) := fun q hq => cell_alloc o (h q hq)
theorem Cells.below {l : List (Addr × Value)} {w w' : World} (h : Cells l w) (hb : Below w.heap.size w w') : Cells l w' := fun q hq => (hb.cell (World.block_lt_of_cell? w _ (h q hq))).trans (h q hq)
theorem Cells.grown {l : List (Addr × Value)} {w w' : World} {row : Option Nat} (h : Cells l w) (hg : w.grownBy w' row) (hr : ∀ q ∈ l, row ≠ some q.1.block) : Cells l w' := fun q hq => cell_grown hg (h q hq) (hr q hq)
theorem OwnShs.alloc {w : World} {base n : Nat} {T TF : TypeId} {v : Value} {rs : List ShR} {xs : List Shp} (h : OwnShs w base T TF v n rs xs) (o : Obj) : OwnShs (w.alloc o) base T TF v n rs xs := OwnShs.below h (Below.refl _ _ |>.alloc (Nat.le_refl _) o) (Nat.le_refl _)
theorem RowIs.alloc {w : World} {base : Nat} {TF : TypeId} {r : ShR} {x : Shp} (h : RowIs w base TF r x) (o : Obj) : RowIs (w.alloc o) base TF r x := ⟨h.1, h.2.1, h.2.2.alloc o⟩
theorem OwnShs.drew {w : World} {base n : Nat} {T TF : TypeId} {v : Value} {rs : List ShR} {xs : List Shp} (h : OwnShs w base T TF v n rs xs) : OwnShs w.drew base T TF v n rs xs := OwnShs.below h (Below.refl _ _).drew (Nat.le_refl _)
theorem below_grown {B : Nat} {w0 w w' : World} {row : Option Nat} (hb : Below B w0 w) (hg : w.grownBy w' row) (hr : ∀ g, row = some g → B ≤ g) (hB : B ≤ w.heap.size) : Below B w0 w' :=
  hb.trans ⟨hg.os, hg.tape, hg.output, hg.size, fun k hk => hg.block k (by omega) (fun e => by have := hr k e.symm; omega)⟩
theorem results_cell {fn : Func} {p : Tmp} {ty : TypeId} (h : fn.results = #[.cell p ty]) {tmps : Array Value} {a : Addr} (hp : tmps.getD p undef = .pointer (some a)) {P : Program} {w : World} {v : Value} (hv : (loadVar ty a).run P w = .ok v w) : (results fn tmps).run P w = .ok v w := by
  have hp' : tmps[p]?.getD undef = .pointer (some a) := by simpa using hp
  simp only [results, h]
  simp [Sem.run_bind, Result.andThen, hp', asAddr, hv]
theorem range_of_box {w : World} {b : Nat} {cs : List Value} {t : TypeId} (h : w.heap[b]? = some (.cells cs.toArray t (0, 0))) : w.rangeAt b 0 cs := by
  intro j u hj
  simp [World.cell?, h, hj]
def shAt (id : Int) : Nat → List Shp → Int
  | _, [] => -1
  | k, x :: xs => if x.id = id then k else shAt id (k + 1) xs
theorem shAt_yes {id : Int} {k : Nat} {xs : List Shp} {e : Shp} {R : Int} (h : shAt id k (xs.drop k) = R) (he : xs[k]? = some e) (hi : e.id = id) : (k : Int) = R := by
  rw [drop_cons he, shAt, if_pos hi] at h; exact h
theorem shAt_no {id : Int} {k : Nat} {xs : List Shp} {e : Shp} {R : Int} (h : shAt id k (xs.drop k) = R) (he : xs[k]? = some e) (hi : ¬ e.id = id) : shAt id (k + 1) (xs.drop (k + 1)) = R := by
  rw [drop_cons he, shAt, if_neg hi] at h; exact h
theorem shAt_end {id : Int} {k : Nat} {xs : List Shp} {R : Int} (h : shAt id k (xs.drop k) = R) (hk : xs.length ≤ k) : (-1 : Int) = R := by
  rw [List.drop_of_length_le hk] at h; exact h
def hasNum (fs : List Fld) (n : Int) : Bool := fs.any fun f => f.number == n
def hasId (xs : List Shp) (i : Int) : Bool := xs.any fun x => x.id == i
theorem any_hit {α : Type} {p : α → Bool} {xs : List α} {k : Nat} {e : α} (he : xs[k]? = some e) (h : p e = true) : xs.any p = true := List.any_eq_true.2 ⟨e, List.mem_of_getElem? he, h⟩
theorem any_snoc {α : Type} {p : α → Bool} {xs : List α} {k : Nat} {e : α} (he : xs[k]? = some e) : (xs.take (k + 1)).any p = ((xs.take k).any p || p e) := by
  rw [List.take_add_one, he]; simp
set_option maxHeartbeats 2000000 in
theorem l6HasNumber_any (a : Option Addr) (cap n : Nat) (fs : List Fld) (x : Int) (w : World) (h : Flds w a fs) (hl : fs.length = n) (hn : n ≤ 1048576) :
    Calls Tryd.prog 82 #[.slice a n cap, .int .i64 x] w fun r w' => r = .returned (.bool (hasNum fs x)) ∧ Below w.heap.size w w' := by
  have HL := Lib.hid hl; clear hl
  obtain ⟨R, hR⟩ : ∃ R, hasNum fs x = R := ⟨_, rfl⟩
  rw [hR]
  have HR := Lib.hid hR; clear hR
  go_enter Tryd.func82, Tryd.ntmps82
  go_wp2
  go_loop [5] (fun i => ∃ k : Nat, k ≤ n ∧ i = .int .i64 k ∧ Hid ((fs.take k).any (fun f => f.number == x) = false)) (fun i => n - (intOf i).toNat)
  case atStart => exact ⟨0, Nat.zero_le _, rfl, Lib.hid (by simp)⟩
  case round =>
    obtain ⟨k, hk, rfl, HK⟩ := hrel
    by_cases hlt : k < n
    · obtain ⟨f, hf, _⟩ := at_lt (xs := fs) (k := k) (by rw [HL.out]; exact hlt)
      obtain ⟨b, off, rfl, hbl, d0, -⟩ := Flds.at h hf
      have HF := Lib.hid hf; clear hf
      cases hq : (f.number == x)
      · have HK2 := Lib.hid (show (fs.take (k + 1)).any (fun f => f.number == x) = false by rw [any_snoc HF.out, HK.out, hq]; rfl)
        go_wp2
        go_round
        case rel => exact ⟨k + 1, by omega, by go_num, HK2⟩
        case measure => simp [intOf]; omega
      · have HB := Lib.hid (show true = R by rw [← HR.out, hasNum, any_hit HF.out hq])
        go_wp2
        go_ret
        exact ⟨ret_bool HB.out, by ((repeat (first | (with_reducible exact Below.refl _ _) | (with_reducible assumption) | (with_reducible refine Below.alloc ?_ ?_ _) | (with_reducible refine Below.setCell ?_ ?_ _) | (with_reducible refine Below.drew ?_) | (with_reducible refine below_setRow ?_ ?_ _) | (refine Below.trans ?_ (Below.mono (by assumption) ?_)))); all_goals (first | omega | (simp; done) | (simp; omega)))⟩
    · have HB := Lib.hid (show false = R by rw [← HR.out, hasNum]; have := HK.out; rw [List.take_of_length_le (by rw [HL.out]; omega)] at this; exact this.symm)
      go_wp2
      go_ret
      exact ⟨ret_bool HB.out, by ((repeat (first | (with_reducible exact Below.refl _ _) | (with_reducible assumption) | (with_reducible refine Below.alloc ?_ ?_ _) | (with_reducible refine Below.setCell ?_ ?_ _) | (with_reducible refine Below.drew ?_) | (with_reducible refine below_setRow ?_ ?_ _) | (refine Below.trans ?_ (Below.mono (by assumption) ?_)))); all_goals (first | omega | (simp; done) | (simp; omega)))⟩
theorem Shs.at {w : World} {a : Option Addr} {xs : List Shp} (h : Shs w a xs) {k : Nat} {x : Shp} (hx : xs[k]? = some x) :
    ∃ b off a' cap', a = some ⟨b, off, none⟩ ∧ b < w.heap.size ∧ w.cell? ⟨b, off + k * 2, none⟩ = some (.int .i64 x.id) ∧ w.cell? ⟨b, off + k * 2 + 1, none⟩ = some (.slice a' x.flds.length cap') ∧ Flds w a' x.flds := h k x hx
set_option maxHeartbeats 2000000 in
theorem l6HasId_any (a : Option Addr) (cap n m : Nat) (xs : List Shp) (x : Int) (w : World) (h : Shs w a xs) (hl : xs.length = n) (hn : n ≤ 1048576) (hm : m ≤ n) :
    Calls Tryd.prog 80 #[.agg #[.slice a n cap], .int .i64 x, .int .i64 m] w fun r w' => r = .returned (.bool (hasId (xs.take m) x)) ∧ Below w.heap.size w w' := by
  have HL := Lib.hid hl; clear hl
  obtain ⟨R, hR⟩ : ∃ R, hasId (xs.take m) x = R := ⟨_, rfl⟩
  rw [hR]
  have HR := Lib.hid hR; clear hR
  go_enter Tryd.func80, Tryd.ntmps80
  go_wp2
  have hh : Shs (w.alloc (.cells #[.slice a n cap] 35)) a xs := h.keep (by ((repeat (first | (with_reducible exact Below.refl _ _) | (with_reducible assumption) | (with_reducible refine Below.alloc ?_ ?_ _) | (with_reducible refine Below.setCell ?_ ?_ _) | (with_reducible refine Below.drew ?_) | (with_reducible refine below_setRow ?_ ?_ _) | (refine Below.trans ?_ (Below.mono (by assumption) ?_)))); all_goals (first | omega | (simp; done) | (simp; omega))))
  have HH := Lib.hid hh; clear hh
  go_loop [7] (fun i => ∃ k : Nat, k ≤ m ∧ i = .int .i64 k ∧ Hid ((xs.take k).any (fun f => f.id == x) = false)) (fun i => m - (intOf i).toNat)
  case atStart => exact ⟨0, Nat.zero_le _, rfl, Lib.hid (by simp)⟩
  case round =>
    obtain ⟨k, hk, rfl, HK⟩ := hrel
    by_cases hlt : k < m
    · obtain ⟨f, hf, _⟩ := at_lt (xs := xs) (k := k) (by rw [HL.out]; omega)
      obtain ⟨b, off, a', cap', rfl, hbl, d0, -⟩ := Shs.at HH.out hf
      have hkn : k < n := by omega
      have HF := Lib.hid hf; clear hf
      cases hq : (f.id == x)
      · have HK2 := Lib.hid (show (xs.take (k + 1)).any (fun f => f.id == x) = false by rw [any_snoc HF.out, HK.out, hq]; rfl)
        go_wp2
        go_round
        case rel => exact ⟨k + 1, by omega, by go_num, HK2⟩
        case measure => simp [intOf]; omega
      · have HB := Lib.hid (show true = R by rw [← HR.out, hasId]; exact (any_hit (k := k) (e := f) (xs := xs.take m) (p := fun y => y.id == x) (by rw [List.getElem?_take, if_pos hlt]; exact HF.out) hq).symm)
        go_wp2
        go_ret
        exact ⟨ret_bool HB.out, by ((repeat (first | (with_reducible exact Below.refl _ _) | (with_reducible assumption) | (with_reducible refine Below.alloc ?_ ?_ _) | (with_reducible refine Below.setCell ?_ ?_ _) | (with_reducible refine Below.drew ?_) | (with_reducible refine below_setRow ?_ ?_ _) | (refine Below.trans ?_ (Below.mono (by assumption) ?_)))); all_goals (first | omega | (simp; done) | (simp; omega)))⟩
    · obtain rfl : k = m := by omega
      have HB := Lib.hid (show false = R by rw [← HR.out, hasId]; exact HK.out.symm)
      go_wp2
      go_ret
      exact ⟨ret_bool HB.out, by ((repeat (first | (with_reducible exact Below.refl _ _) | (with_reducible assumption) | (with_reducible refine Below.alloc ?_ ?_ _) | (with_reducible refine Below.setCell ?_ ?_ _) | (with_reducible refine Below.drew ?_) | (with_reducible refine below_setRow ?_ ?_ _) | (refine Below.trans ?_ (Below.mono (by assumption) ?_)))); all_goals (first | omega | (simp; done) | (simp; omega)))⟩
def msgC (xs : List Shp) (i : Nat) (x : Shp) : Int := if inB x.id 1 99 = false then 2 else if hasId (xs.take i) x.id = true then 3 else if 8 < x.flds.length then 4 else 0
set_option maxHeartbeats 2000000 in
theorem specMsgCode_any (a : Option Addr) (cap n i : Nat) (xs : List Shp) (x : Shp) (w : World) (h : Shs w a xs) (hl : xs.length = n) (hn : n ≤ 1048576) (hx : xs[i]? = some x) (hi : i < n) (hf : x.flds.length ≤ 1048576) :
    Calls Tryd.prog 60 #[.agg #[.slice a n cap], .int .i64 i] w fun r w' => r = .returned (.int .i64 (msgC xs i x)) ∧ Below w.heap.size w w' := by
  have HL := Lib.hid hl; clear hl
  obtain ⟨R, hR⟩ : ∃ R, msgC xs i x = R := ⟨_, rfl⟩
  rw [hR]
  have HR := Lib.hid hR; clear hR
  obtain ⟨b, off, a', cap', rfl, hbl, c0, c1, -⟩ := Shs.at h hx
  have HX := Lib.hid hx; clear hx
  have hb1 : inB (i : Int) 0 ((n : Int) - 1) = true := by simp only [inB, decide_eq_true_eq]; omega
  have hii : (i : Int) < (n : Int) := by omega
  have HH := Lib.hid h; clear h
  go_enter Tryd.func60, Tryd.ntmps60
  cases h1 : inB x.id 1 99
  · have HB := Lib.hid (show (2 : Int) = R by rw [← HR.out, msgC, if_pos h1])
    go_wp2_with (first | (go_at_call 21; refine (l1In_any _ _ _ _).mono ?_; rintro r w1 ⟨rfl, rfl⟩))
    go_ret
    exact ⟨ret_int HB.out, by ((repeat (first | (with_reducible exact Below.refl _ _) | (with_reducible assumption) | (with_reducible refine Below.alloc ?_ ?_ _) | (with_reducible refine Below.setCell ?_ ?_ _) | (with_reducible refine Below.drew ?_) | (with_reducible refine below_setRow ?_ ?_ _) | (refine Below.trans ?_ (Below.mono (by assumption) ?_)))); all_goals (first | omega | (simp; done) | (simp; omega)))⟩
  · go_wp2_with (first | (go_at_call 21; refine (l1In_any _ _ _ _).mono ?_; rintro r w1 ⟨rfl, rfl⟩))
    refine (l6HasId_any (some ⟨b, off, none⟩) cap n i xs x.id _ (HH.out.keep (by ((repeat (first | (with_reducible exact Below.refl _ _) | (with_reducible assumption) | (with_reducible refine Below.alloc ?_ ?_ _) | (with_reducible refine Below.setCell ?_ ?_ _) | (with_reducible refine Below.drew ?_) | (with_reducible refine below_setRow ?_ ?_ _) | (refine Below.trans ?_ (Below.mono (by assumption) ?_)))); all_goals (first | omega | (simp; done) | (simp; omega))))) HL.out hn (by omega)).mono ?_
    rintro r w2 ⟨rfl, hb2⟩
    have hM := (hb2.block (w.heap.size + 1) (by simp)).trans (hset_new (o := .cells #[.int .i64 x.id, .slice a' x.flds.length cap'] 56) (by simp))
    have kM := box_cells hM
    have hbw : Below w.heap.size w w2 := by ((repeat (first | (with_reducible exact Below.refl _ _) | (with_reducible assumption) | (with_reducible refine Below.alloc ?_ ?_ _) | (with_reducible refine Below.setCell ?_ ?_ _) | (with_reducible refine Below.drew ?_) | (with_reducible refine below_setRow ?_ ?_ _) | (refine Below.trans ?_ (Below.mono (by assumption) ?_)))); all_goals (first | omega | (simp; done) | (simp; omega)))
    clear hb2 hM
    cases h2 : hasId (xs.take i) x.id
    · by_cases h8 : 8 < x.flds.length
      · have HB := Lib.hid (show (4 : Int) = R by rw [← HR.out, msgC, if_neg (by rw [h1]; simp), if_neg (by rw [h2]; simp), if_pos h8])
        have h8' : (8 : Int) < (x.flds.length : Int) := by omega
        go_wp2
        go_ret
        exact ⟨ret_int HB.out, by ((repeat (first | (with_reducible exact Below.refl _ _) | (with_reducible assumption) | (with_reducible refine Below.alloc ?_ ?_ _) | (with_reducible refine Below.setCell ?_ ?_ _) | (with_reducible refine Below.drew ?_) | (with_reducible refine below_setRow ?_ ?_ _) | (refine Below.trans ?_ (Below.mono (by assumption) ?_)))); all_goals (first | omega | (simp; done) | (simp; omega)))⟩
      · have HB := Lib.hid (show (0 : Int) = R by rw [← HR.out, msgC, if_neg (by rw [h1]; simp), if_neg (by rw [h2]; simp), if_neg h8])
        have h8' : decide ((8 : Int) < (x.flds.length : Int)) = false := decide_eq_false (by omega)
        go_wp2
        go_ret
        exact ⟨ret_int HB.out, by ((repeat (first | (with_reducible exact Below.refl _ _) | (with_reducible assumption) | (with_reducible refine Below.alloc ?_ ?_ _) | (with_reducible refine Below.setCell ?_ ?_ _) | (with_reducible refine Below.drew ?_) | (with_reducible refine below_setRow ?_ ?_ _) | (refine Below.trans ?_ (Below.mono (by assumption) ?_)))); all_goals (first | omega | (simp; done) | (simp; omega)))⟩
    · have HB := Lib.hid (show (3 : Int) = R by rw [← HR.out, msgC, if_neg (by rw [h1]; simp), if_pos h2])
      go_wp2
      go_ret
      exact ⟨ret_int HB.out, by ((repeat (first | (with_reducible exact Below.refl _ _) | (with_reducible assumption) | (with_reducible refine Below.alloc ?_ ?_ _) | (with_reducible refine Below.setCell ?_ ?_ _) | (with_reducible refine Below.drew ?_) | (with_reducible refine below_setRow ?_ ?_ _) | (refine Below.trans ?_ (Below.mono (by assumption) ?_)))); all_goals (first | omega | (simp; done) | (simp; omega)))⟩
def ShsL (w : World) (a : Option Addr) (xs : List Shp) : Prop :=
  ∀ (k : Nat) (x : Shp), xs[k]? = some x → ∃ b off a' cap', a = some ⟨b, off, none⟩ ∧ b < w.heap.size ∧ w.cell? ⟨b, off + k * 2, none⟩ = some (.int .i64 x.id) ∧ w.cell? ⟨b, off + k * 2 + 1, none⟩ = some (.slice a' x.flds.length cap') ∧ Flds w a' x.flds ∧ x.flds.length ≤ cap'
theorem ShsL.shs {w : World} {a : Option Addr} {xs : List Shp} (h : ShsL w a xs) : Shs w a xs := fun k x hx => by
  obtain ⟨b, off, a', cap', h1, h2, h3, h4, h5, _⟩ := h k x hx
  exact ⟨b, off, a', cap', h1, h2, h3, h4, h5⟩
theorem ShsL.keep {w w' : World} {a : Option Addr} {xs : List Shp} (h : ShsL w a xs) (hb : Below w.heap.size w w') : ShsL w' a xs := fun k x hx => by
  obtain ⟨b, off, a', cap', h1, h2, h3, h4, h5, h6⟩ := h k x hx
  exact ⟨b, off, a', cap', h1, Nat.lt_of_lt_of_le h2 hb.size, (hb.cell (p := ⟨b, _, none⟩) h2).trans h3, (hb.cell (p := ⟨b, _, none⟩) h2).trans h4, Sl.keep h5 hb, h6⟩
theorem own_lecapR {w : World} {base n cap size : Nat} {t : TypeId} {a : Option Addr} {L : List Value} (h : w.ownsRow base t size (.slice a n cap) n L) : n ≤ cap := by
  rcases h.2 with ⟨e, h0⟩ | ⟨g, c, cur, e, _, _, hc, _⟩
  · simp only [Value.slice.injEq] at e; omega
  · simp only [Value.slice.injEq] at e; omega
theorem OwnShs.shsL {w : World} {base : Nat} {T TF : TypeId} {a : Option Addr} {n cap : Nat} {rs : List ShR} {xs : List Shp} (h : OwnShs w base T TF (.slice a n cap) n rs xs) : ShsL w a xs := by
  intro k x hx
  have hk : k < xs.length := by
    rcases Nat.lt_or_ge k xs.length with h | h
    · exact h
    · rw [List.getElem?_eq_none h] at hx; simp at hx
  have hkr : k < rs.length := by rw [h.len, ← h.lenx]; exact hk
  obtain ⟨a1, cap1, e, _, _, hs⟩ := Sl.of_owns shR_len h.outer h.len
  simp only [Value.slice.injEq] at e
  obtain ⟨rfl, _, rfl⟩ := e
  obtain ⟨b, off, ha, hlt, hc⟩ := hs k rs[k] (List.getElem?_eq_getElem hkr)
  obtain ⟨h1, h2, h3⟩ := h.each k rs[k] x (List.getElem?_eq_getElem hkr) hx
  have c0 := hc 0 _ rfl
  have c1 := hc 1 _ rfl
  rw [h1] at c0
  rw [h2] at c1 h3
  exact ⟨b, off, rs[k].a, rs[k].cap, ha, hlt, c0, c1, flds_of_own h3 rfl, own_lecapR h3⟩
theorem flds_take {w : World} {a : Option Addr} {fs : List Fld} (h : Flds w a fs) (k : Nat) : Flds w a (fs.take k) := fun j e he => h j e (by
  rw [List.getElem?_take] at he
  split at he
  · exact he
  · simp at he)
def refBad (xs : List Shp) (f : Fld) : Bool := if f.kind = 8 then !hasId xs f.msg else !(f.msg == 0)
def fldC (xs : List Shp) (fs : List Fld) (k : Nat) (f : Fld) : Int :=
  if numOk f.number = false then 5 else if hasNum (fs.take k) f.number = true then 6 else if inB f.kind 1 8 = false then 7 else if packOk f = false then 8
  else if refBad xs f = true then 9 else 0
set_option maxRecDepth 100000 in
set_option maxHeartbeats 4000000 in
theorem specFieldCode_any (a : Option Addr) (cap n i k : Nat) (xs : List Shp) (x : Shp) (f : Fld) (w : World) (h : ShsL w a xs) (hl : xs.length = n) (hn : n ≤ 1048576) (hx : xs[i]? = some x) (hi : i < n) (hfl : x.flds.length ≤ 1048576) (hf : x.flds[k]? = some f) (hk : k < x.flds.length) :
    Calls Tryd.prog 61 #[.agg #[.slice a n cap], .int .i64 i, .int .i64 k] w fun r w' => r = .returned (.int .i64 (fldC xs x.flds k f)) ∧ Below w.heap.size w w' := by
  have HL := Lib.hid hl; clear hl
  obtain ⟨R, hR⟩ : ∃ R, fldC xs x.flds k f = R := ⟨_, rfl⟩
  rw [hR]
  have HR := Lib.hid hR; clear hR
  obtain ⟨b, off, a', cap', rfl, hbl, c0, c1, hfs, hcp⟩ := h i x hx
  obtain ⟨b2, off2, rfl, hbl2, d0, d1, d2, d3, d4⟩ := Flds.at hfs hf
  have HX := Lib.hid hx; clear hx
  have HF := Lib.hid hf; clear hf
  have HFS := Lib.hid hfs; clear hfs
  have hb1 : inB (i : Int) 0 ((n : Int) - 1) = true := by simp only [inB, decide_eq_true_eq]; omega
  have hb2' : inB (k : Int) 0 ((x.flds.length : Int) - 1) = true := by simp only [inB, decide_eq_true_eq]; omega
  have hii : (i : Int) < (n : Int) := by omega
  have hki : (k : Int) < (x.flds.length : Int) := by omega
  have hkc : (k : Int) ≤ (cap' : Int) := by omega
  have hk0 : (0 : Int) ≤ (k : Int) := by omega
  have HH := Lib.hid h.shs; clear h
  go_enter Tryd.func61, Tryd.ntmps61
  cases h1 : numOk f.number
  · have HB := Lib.hid (show (5 : Int) = R by rw [← HR.out, fldC, if_pos h1])
    go_wp2_with (first | (go_at_call 21; refine (l1In_any _ _ _ _).mono ?_; rintro r w1 ⟨rfl, rfl⟩) | (go_at_call 81; refine (specNumberOk_any _ _).mono ?_; rintro r w1 ⟨rfl, rfl⟩))
    go_ret
    exact ⟨ret_int HB.out, by ((repeat (first | (with_reducible exact Below.refl _ _) | (with_reducible assumption) | (with_reducible refine Below.alloc ?_ ?_ _) | (with_reducible refine Below.setCell ?_ ?_ _) | (with_reducible refine Below.drew ?_) | (with_reducible refine below_setRow ?_ ?_ _) | (refine Below.trans ?_ (Below.mono (by assumption) ?_)))); all_goals (first | omega | (simp; done) | (simp; omega)))⟩
  · go_wp2_with (first | (go_at_call 21; refine (l1In_any _ _ _ _).mono ?_; rintro r w1 ⟨rfl, rfl⟩) | (go_at_call 81; refine (specNumberOk_any _ _).mono ?_; rintro r w1 ⟨rfl, rfl⟩))
    have HF2 : ∀ W x0 : World, Below w.heap.size w W → Flds (World.ext W x0) (some ⟨b2, off2, none⟩) (x.flds.take k) := fun W x0 hW => Sl.keep (Sl.keep (flds_take HFS.out k) hW) (World.ext_below _ _)
    have HF3 := Lib.hid HF2; clear HF2
    have HKl := Lib.hid (show (x.flds.take k).length = k by rw [List.length_take]; omega)
    (refine wp_region_ext (by kernel_rfl) (by kernel_rfl) ?_; (repeat (go_big_quiet_step (first | (go_at_call 82; refine Calls.ext_of (l6HasNumber_any (some ⟨b2, off2, none⟩) cap' k (x.flds.take k) f.number _ (HF3.out _ _ (by ((repeat (first | (with_reducible exact Below.refl _ _) | (with_reducible assumption) | (with_reducible refine Below.alloc ?_ ?_ _) | (with_reducible refine Below.setCell ?_ ?_ _) | (with_reducible refine Below.drew ?_) | (with_reducible refine below_setRow ?_ ?_ _) | (refine Below.trans ?_ (Below.mono (by assumption) ?_)))); all_goals (first | omega | (simp; done) | (simp; omega))))) HKl.out (by omega)))))); refine wpQuiet_nil ?_; intro w2 hb2; obtain ⟨hc2, hf2⟩ := bcell hb2; have hz2 := hb2.size; (try simp only [World.size_alloc, World.size_setCell, World.size_drew] at hz2); have hy2_0 : w.heap.size < w2.heap.size := by omega)
    have hA_ := (hb2.block w.heap.size (by simp; omega)).trans (hset_alloc (hset_new (o := .cells #[.slice (some ⟨b, off, none⟩) n cap] 35) rfl))
    have hG_ := (hb2.block (w.heap.size + 1) (by simp)).trans (hset_new (o := .cells #[.int .i64 f.number, .int .i64 f.kind, .bool f.rep, .bool f.packed, .int .i64 f.msg] 25) (by simp))
    have kA := box_cells hA_; have kG := box_cells hG_; have hlG := box_lt hG_; have hlA := box_lt hA_; have HGx := Lib.hid hG_
    have hbw : Below w.heap.size w w2 := by ((repeat (first | (with_reducible exact Below.refl _ _) | (with_reducible assumption) | (with_reducible refine Below.alloc ?_ ?_ _) | (with_reducible refine Below.setCell ?_ ?_ _) | (with_reducible refine Below.drew ?_) | (with_reducible refine below_setRow ?_ ?_ _) | (refine Below.trans ?_ (Below.mono (by assumption) ?_)))); all_goals (first | omega | (simp; done) | (simp; omega)))
    clear hb2 hA_ hG_ hc2 hf2
    cases h2 : hasNum (x.flds.take k) f.number
    · cases h3 : inB f.kind 1 8
      · have HB := Lib.hid (show (7 : Int) = R by rw [← HR.out, fldC, if_neg (by rw [h1]; simp), if_neg (by rw [h2]; simp), if_pos h3])
        go_wp2_with (first | (go_at_call 22; refine (l6Kind_any _ _).mono ?_; rintro r w1 ⟨rfl, rfl⟩))
        go_ret
        exact ⟨ret_int HB.out, by ((repeat (first | (with_reducible exact Below.refl _ _) | (with_reducible assumption) | (with_reducible refine Below.alloc ?_ ?_ _) | (with_reducible refine Below.setCell ?_ ?_ _) | (with_reducible refine Below.drew ?_) | (with_reducible refine below_setRow ?_ ?_ _) | (refine Below.trans ?_ (Below.mono (by assumption) ?_)))); all_goals (first | omega | (simp; done) | (simp; omega)))⟩
      · cases h4 : packOk f
        · have HB := Lib.hid (show (8 : Int) = R by rw [← HR.out, fldC, if_neg (by rw [h1]; simp), if_neg (by rw [h2]; simp), if_neg (by rw [h3]; simp), if_pos h4])
          simp only [packOk, Bool.not_eq_false', Bool.and_eq_true, Bool.or_eq_true, Bool.not_eq_true'] at h4
          obtain ⟨h5, h6⟩ := h4
          rw [h5] at kG d3
          cases h7 : f.rep
          · rw [h7] at kG d2
            go_wp2_with (first | (go_at_call 22; refine (l6Kind_any _ _).mono ?_; rintro r w1 ⟨rfl, rfl⟩))
            go_ret
            exact ⟨ret_int HB.out, by ((repeat (first | (with_reducible exact Below.refl _ _) | (with_reducible assumption) | (with_reducible refine Below.alloc ?_ ?_ _) | (with_reducible refine Below.setCell ?_ ?_ _) | (with_reducible refine Below.drew ?_) | (with_reducible refine below_setRow ?_ ?_ _) | (refine Below.trans ?_ (Below.mono (by assumption) ?_)))); all_goals (first | omega | (simp; done) | (simp; omega)))⟩
          · have h8 : inB f.kind 1 5 = false := by rcases h6 with h6 | h6; (rw [h7] at h6; simp at h6); exact h6
            rw [h7] at kG d2
            go_wp2_with (first | (go_at_call 22; refine (l6Kind_any _ _).mono ?_; rintro r w1 ⟨rfl, rfl⟩) | (go_at_call 83; refine (specNumeric_any _ _).mono ?_; rintro r w1 ⟨rfl, rfl⟩))
            go_ret
            exact ⟨ret_int HB.out, by ((repeat (first | (with_reducible exact Below.refl _ _) | (with_reducible assumption) | (with_reducible refine Below.alloc ?_ ?_ _) | (with_reducible refine Below.setCell ?_ ?_ _) | (with_reducible refine Below.drew ?_) | (with_reducible refine below_setRow ?_ ?_ _) | (refine Below.trans ?_ (Below.mono (by assumption) ?_)))); all_goals (first | omega | (simp; done) | (simp; omega)))⟩
        · have HP : f.packed = false ∨ f.packed = true ∧ f.rep = true ∧ inB f.kind 1 5 = true := by
            simp only [packOk] at h4
            cases h5 : f.packed <;> cases h6 : f.rep <;> cases h7 : inB f.kind 1 5 <;> simp [h5, h6, h7] at h4 ⊢
          have HE : ∀ v : Int, (if refBad xs f = true then (9 : Int) else 0) = v → v = R := fun v hv => by rw [← HR.out, fldC, if_neg (by rw [h1]; simp), if_neg (by rw [h2]; simp), if_neg (by rw [h3]; simp), if_neg (by rw [h4]; simp), hv]
          have HE2 := Lib.hid HE; clear HE h4
          by_cases h8 : f.kind = 8
          · have g8 : (f.kind == 8) = true := by simp; omega
            have g8n : (f.kind != 8) = false := by simp; omega
            have HRB := Lib.hid (show refBad xs f = !hasId xs f.msg by rw [refBad, if_pos h8])
            have HTK := Lib.hid (show xs.take n = xs from List.take_of_length_le (by rw [HL.out]; omega))
            clear h8
            rcases HP with h5 | ⟨h5, h6, h7⟩
            · rw [h5] at kG d3
              go_wp2_with (first | (go_at_call 22; refine (l6Kind_any _ _).mono ?_; rintro r w1 ⟨rfl, rfl⟩))
              refine (l6HasId_any (some ⟨b, off, none⟩) cap n n xs f.msg _ (HH.out.keep hbw) HL.out hn (Nat.le_refl _)).mono ?_
              rintro r w3 ⟨rfl, hb3⟩
              rw [HTK.out]
              have hG3 := (hb3.block _ hlG).trans HGx.out
              have kG3 := box_cells hG3; clear hG3 kG kA
              cases h9 : hasId xs f.msg
              · have HB := Lib.hid (HE2.out 9 (by rw [HRB.out, h9]; rfl))
                go_wp2
                go_ret
                exact ⟨ret_int HB.out, by ((repeat (first | (with_reducible exact Below.refl _ _) | (with_reducible assumption) | (with_reducible refine Below.alloc ?_ ?_ _) | (with_reducible refine Below.setCell ?_ ?_ _) | (with_reducible refine Below.drew ?_) | (with_reducible refine below_setRow ?_ ?_ _) | (refine Below.trans ?_ (Below.mono (by assumption) ?_)))); all_goals (first | omega | (simp; done) | (simp; omega)))⟩
              · have HB := Lib.hid (HE2.out 0 (by rw [HRB.out, h9]; rfl))
                go_wp2
                go_ret
                exact ⟨ret_int HB.out, by ((repeat (first | (with_reducible exact Below.refl _ _) | (with_reducible assumption) | (with_reducible refine Below.alloc ?_ ?_ _) | (with_reducible refine Below.setCell ?_ ?_ _) | (with_reducible refine Below.drew ?_) | (with_reducible refine below_setRow ?_ ?_ _) | (refine Below.trans ?_ (Below.mono (by assumption) ?_)))); all_goals (first | omega | (simp; done) | (simp; omega)))⟩
            · rw [h5] at kG d3
              rw [h6] at kG d2
              go_wp2_with (first | (go_at_call 22; refine (l6Kind_any _ _).mono ?_; rintro r w1 ⟨rfl, rfl⟩) | (go_at_call 83; refine (specNumeric_any _ _).mono ?_; rintro r w1 ⟨rfl, rfl⟩))
              refine (l6HasId_any (some ⟨b, off, none⟩) cap n n xs f.msg _ (HH.out.keep hbw) HL.out hn (Nat.le_refl _)).mono ?_
              rintro r w3 ⟨rfl, hb3⟩
              rw [HTK.out]
              have hG3 := (hb3.block _ hlG).trans HGx.out
              have kG3 := box_cells hG3; clear hG3 kG kA
              cases h9 : hasId xs f.msg
              · have HB := Lib.hid (HE2.out 9 (by rw [HRB.out, h9]; rfl))
                go_wp2
                go_ret
                exact ⟨ret_int HB.out, by ((repeat (first | (with_reducible exact Below.refl _ _) | (with_reducible assumption) | (with_reducible refine Below.alloc ?_ ?_ _) | (with_reducible refine Below.setCell ?_ ?_ _) | (with_reducible refine Below.drew ?_) | (with_reducible refine below_setRow ?_ ?_ _) | (refine Below.trans ?_ (Below.mono (by assumption) ?_)))); all_goals (first | omega | (simp; done) | (simp; omega)))⟩
              · have HB := Lib.hid (HE2.out 0 (by rw [HRB.out, h9]; rfl))
                go_wp2
                go_ret
                exact ⟨ret_int HB.out, by ((repeat (first | (with_reducible exact Below.refl _ _) | (with_reducible assumption) | (with_reducible refine Below.alloc ?_ ?_ _) | (with_reducible refine Below.setCell ?_ ?_ _) | (with_reducible refine Below.drew ?_) | (with_reducible refine below_setRow ?_ ?_ _) | (refine Below.trans ?_ (Below.mono (by assumption) ?_)))); all_goals (first | omega | (simp; done) | (simp; omega)))⟩
          · have g8 : (f.kind == 8) = false := by simp; omega
            have g8n : (f.kind != 8) = true := by simp; omega
            have HRB := Lib.hid (show refBad xs f = !(f.msg == 0) by rw [refBad, if_neg h8])
            clear h8
            rcases HP with h5 | ⟨h5, h6, h7⟩
            · rw [h5] at kG d3
              by_cases h9 : f.msg = 0
              · have g9 : (f.msg == 0) = true := by simp; omega
                have g9n : (f.msg != 0) = false := by simp; omega
                have HB := Lib.hid (HE2.out 0 (by rw [HRB.out, g9]; rfl))
                clear h9
                go_wp2_with (first | (go_at_call 22; refine (l6Kind_any _ _).mono ?_; rintro r w1 ⟨rfl, rfl⟩))
                go_ret
                exact ⟨ret_int HB.out, by ((repeat (first | (with_reducible exact Below.refl _ _) | (with_reducible assumption) | (with_reducible refine Below.alloc ?_ ?_ _) | (with_reducible refine Below.setCell ?_ ?_ _) | (with_reducible refine Below.drew ?_) | (with_reducible refine below_setRow ?_ ?_ _) | (refine Below.trans ?_ (Below.mono (by assumption) ?_)))); all_goals (first | omega | (simp; done) | (simp; omega)))⟩
              · have g9 : (f.msg == 0) = false := by simp; omega
                have g9n : (f.msg != 0) = true := by simp; omega
                have HB := Lib.hid (HE2.out 9 (by rw [HRB.out, g9]; rfl))
                clear h9
                go_wp2_with (first | (go_at_call 22; refine (l6Kind_any _ _).mono ?_; rintro r w1 ⟨rfl, rfl⟩))
                go_ret
                exact ⟨ret_int HB.out, by ((repeat (first | (with_reducible exact Below.refl _ _) | (with_reducible assumption) | (with_reducible refine Below.alloc ?_ ?_ _) | (with_reducible refine Below.setCell ?_ ?_ _) | (with_reducible refine Below.drew ?_) | (with_reducible refine below_setRow ?_ ?_ _) | (refine Below.trans ?_ (Below.mono (by assumption) ?_)))); all_goals (first | omega | (simp; done) | (simp; omega)))⟩
            · rw [h5] at kG d3
              rw [h6] at kG d2
              by_cases h9 : f.msg = 0
              · have g9 : (f.msg == 0) = true := by simp; omega
                have g9n : (f.msg != 0) = false := by simp; omega
                have HB := Lib.hid (HE2.out 0 (by rw [HRB.out, g9]; rfl))
                clear h9
                go_wp2_with (first | (go_at_call 22; refine (l6Kind_any _ _).mono ?_; rintro r w1 ⟨rfl, rfl⟩) | (go_at_call 83; refine (specNumeric_any _ _).mono ?_; rintro r w1 ⟨rfl, rfl⟩))
                go_ret
                exact ⟨ret_int HB.out, by ((repeat (first | (with_reducible exact Below.refl _ _) | (with_reducible assumption) | (with_reducible refine Below.alloc ?_ ?_ _) | (with_reducible refine Below.setCell ?_ ?_ _) | (with_reducible refine Below.drew ?_) | (with_reducible refine below_setRow ?_ ?_ _) | (refine Below.trans ?_ (Below.mono (by assumption) ?_)))); all_goals (first | omega | (simp; done) | (simp; omega)))⟩
              · have g9 : (f.msg == 0) = false := by simp; omega
                have g9n : (f.msg != 0) = true := by simp; omega
                have HB := Lib.hid (HE2.out 9 (by rw [HRB.out, g9]; rfl))
                clear h9
                go_wp2_with (first | (go_at_call 22; refine (l6Kind_any _ _).mono ?_; rintro r w1 ⟨rfl, rfl⟩) | (go_at_call 83; refine (specNumeric_any _ _).mono ?_; rintro r w1 ⟨rfl, rfl⟩))
                go_ret
                exact ⟨ret_int HB.out, by ((repeat (first | (with_reducible exact Below.refl _ _) | (with_reducible assumption) | (with_reducible refine Below.alloc ?_ ?_ _) | (with_reducible refine Below.setCell ?_ ?_ _) | (with_reducible refine Below.drew ?_) | (with_reducible refine below_setRow ?_ ?_ _) | (refine Below.trans ?_ (Below.mono (by assumption) ?_)))); all_goals (first | omega | (simp; done) | (simp; omega)))⟩
    · have HB := Lib.hid (show (6 : Int) = R by rw [← HR.out, fldC, if_neg (by rw [h1]; simp), if_pos h2])
      go_wp2
      go_ret
      exact ⟨ret_int HB.out, by ((repeat (first | (with_reducible exact Below.refl _ _) | (with_reducible assumption) | (with_reducible refine Below.alloc ?_ ?_ _) | (with_reducible refine Below.setCell ?_ ?_ _) | (with_reducible refine Below.drew ?_) | (with_reducible refine below_setRow ?_ ?_ _) | (refine Below.trans ?_ (Below.mono (by assumption) ?_)))); all_goals (first | omega | (simp; done) | (simp; omega)))⟩
def firstF (xs : List Shp) (i : Nat) (fs : List Fld) : Nat → List Fld → Option (Int × Int × Int)
  | _, [] => none
  | k, f :: gs => if fldC xs fs k f = 0 then firstF xs i fs (k + 1) gs else some (fldC xs fs k f, i, k)
def firstM (xs : List Shp) : Nat → List Shp → Int × Int × Int
  | _, [] => (0, 0, 0)
  | i, x :: ys => if msgC xs i x = 0 then (firstF xs i x.flds 0 x.flds).getD (firstM xs (i + 1) ys) else (msgC xs i x, i, -1)
def firstV (xs : List Shp) : Int × Int × Int := if 6 < xs.length then (1, 6, -1) else firstM xs 0 xs
def vioV (v : Int × Int × Int) : Value := .agg #[.int .i64 v.1, .int .i64 v.2.1, .int .i64 v.2.2]
section
variable {xs : List Shp} {i k : Nat} {x : Shp} {f : Fld} {R : Int × Int × Int} {O : Option (Int × Int × Int)}
theorem fM_bad (h : firstM xs i (xs.drop i) = R) (hx : xs[i]? = some x) (hb : ¬ msgC xs i x = 0) : (msgC xs i x, (i : Int), (-1 : Int)) = R := by rw [drop_cons hx, firstM, if_neg hb] at h; exact h
theorem fM_ok (h : firstM xs i (xs.drop i) = R) (hx : xs[i]? = some x) (hb : msgC xs i x = 0) : (firstF xs i x.flds 0 x.flds).getD (firstM xs (i + 1) (xs.drop (i + 1))) = R := by rw [drop_cons hx, firstM, if_pos hb] at h; exact h
theorem fM_end (h : firstM xs i (xs.drop i) = R) (hx : xs.length ≤ i) : ((0 : Int), (0 : Int), (0 : Int)) = R := by rw [List.drop_of_length_le hx, firstM] at h; exact h
theorem fF_bad {fs : List Fld} (h : firstF xs i fs k (fs.drop k) = O) (hf : fs[k]? = some f) (hb : ¬ fldC xs fs k f = 0) : some (fldC xs fs k f, (i : Int), (k : Int)) = O := by rw [drop_cons hf, firstF, if_neg hb] at h; exact h
theorem fF_ok {fs : List Fld} (h : firstF xs i fs k (fs.drop k) = O) (hf : fs[k]? = some f) (hb : fldC xs fs k f = 0) : firstF xs i fs (k + 1) (fs.drop (k + 1)) = O := by rw [drop_cons hf, firstF, if_pos hb] at h; exact h
theorem fF_end {fs : List Fld} (h : firstF xs i fs k (fs.drop k) = O) (hf : fs.length ≤ k) : none = O := by rw [List.drop_of_length_le hf, firstF] at h; exact h
end
end Go.Proofs.YtbpilecgnfnndaaDoor
namespace Go.Proofs.YtbpilecgnfnndaaDoor
set_option linter.unusedSimpArgs false
set_option linter.unusedVariables false
open Go.ChangeShapes Go.WideShapes Go.ChangeAt Go.RowKit Go.BigFrame
theorem vio_res {F : Func} (hF : F.results = #[.cell 2 73]) {tm : Array Value} {B : Nat} {W : World} {x y z : Int} (t1 : tm.getD 2 undef = .pointer (some ⟨B, 0, none⟩)) (h : W.heap[B]? = some (.cells #[.int .i64 x, .int .i64 y, .int .i64 z] 73 (0, 0))) :
    (results F tm).run Tryd.prog W = .ok (.agg #[.int .i64 x, .int .i64 y, .int .i64 z]) W :=
  results_cell hF t1 (run_loadVar_mid W B 0 73 [.int .i64 x, .int .i64 y, .int .i64 z] _ (range_of_box h) Tryd.underlying73 rfl (by kernel_rfl))
set_option maxRecDepth 100000 in
set_option maxHeartbeats 4000000 in
theorem specFirst_any (a : Option Addr) (cap n : Nat) (xs : List Shp) (w : World) (h : ShsL w a xs) (hl : xs.length = n) (hn : n ≤ 1048576) (hm : fldSum xs ≤ 1048576) :
    Calls Tryd.prog 45 #[.agg #[.slice a n cap]] w fun r w' => r = .returned (vioV (firstV xs)) ∧ Below w.heap.size w w' := by
  have HL := Lib.hid hl; clear hl
  have HH := Lib.hid h; clear h
  obtain ⟨R, hR⟩ : ∃ R, firstV xs = R := ⟨_, rfl⟩
  rw [hR]
  go_enter Tryd.func45, Tryd.ntmps45
  by_cases h6 : 6 < n
  · have hR1 : R = (1, 6, -1) := by rw [← hR, firstV, if_pos (by rw [HL.out]; exact h6)]
    subst hR1
    have h6' : (6 : Int) < (n : Int) := by omega
    go_wp2
    refine bodyPost_ret (vio_res (B := w.heap.size + 1) (x := 1) (y := 6) (z := -1) Tryd.results45 rfl ?_) rfl ⟨rfl, by ((repeat (first | (with_reducible exact Below.refl _ _) | (with_reducible assumption) | (with_reducible refine Below.alloc ?_ ?_ _) | (with_reducible refine Below.setCell ?_ ?_ _) | (with_reducible refine Below.drew ?_) | (with_reducible refine below_setRow ?_ ?_ _) | (refine Below.trans ?_ (Below.mono (by assumption) ?_)))); all_goals (first | omega | (simp; done) | (simp; omega)))⟩
    exact hset_new (by simp)
  · have HR := Lib.hid (show firstM xs 0 (xs.drop 0) = R by rw [← hR, firstV, if_neg (by rw [HL.out]; exact h6)]; rfl)
    have h6' : decide ((6 : Int) < (n : Int)) = false := decide_eq_false (by omega)
    clear hR
    go_wp2
    go_loopw [3] (fun i wr => ∃ k : Nat, k ≤ n ∧ i = .int .i64 k ∧ Hid (firstM xs k (xs.drop k) = R) ∧ wr.heap[w.heap.size]? = some (.cells #[.slice a n cap] 35 (0, 0)) ∧ wr.heap[w.heap.size + 1]? = some (.cells #[.int .i64 0, .int .i64 0, .int .i64 0] 73 (0, 0)) ∧ Below w.heap.size w wr) (fun i _ => n - (intOf i).toNat)
    case atStart => exact ⟨0, Nat.zero_le _, rfl, HR, hset_alloc (hset_new rfl), hset_new (by simp), by ((repeat (first | (with_reducible exact Below.refl _ _) | (with_reducible assumption) | (with_reducible refine Below.alloc ?_ ?_ _) | (with_reducible refine Below.setCell ?_ ?_ _) | (with_reducible refine Below.drew ?_) | (with_reducible refine below_setRow ?_ ?_ _) | (refine Below.trans ?_ (Below.mono (by assumption) ?_)))); all_goals (first | omega | (simp; done) | (simp; omega)))⟩
    case round =>
      obtain ⟨k, hk, rfl, HK, hA, hV, hb⟩ := hrel
      have kA := box_cells hA 0; have kV := box_cells hV; have fV := box_frozen hV; have hlA := box_lt hA; have hlV := box_lt hV
      simp only [List.getElem?_toArray, List.getElem?_cons_zero] at kA
      have HA := Lib.hid hA; have HV := Lib.hid hV; clear hA hV
      by_cases hlt : k < n
      · obtain ⟨x, hx, _⟩ := at_lt (xs := xs) (k := k) (by rw [HL.out]; exact hlt)
        have hfl : x.flds.length ≤ 1048576 := by have := fldSum_ge hx; omega
        have hsl := HH.out.keep hb
        obtain ⟨b, off, a', cap', rfl, hbl, c0, c1, hfs, hcp⟩ := hsl k x hx
        have HX := Lib.hid hx; clear hx
        have HS := Lib.hid hsl; clear hsl hfs
        go_wp2_with fail
        refine (specMsgCode_any (some ⟨b, off, none⟩) cap n k xs x wr HS.out.shs HL.out hn HX.out hlt hfl).mono ?_
        rintro r w1 ⟨rfl, hb1⟩
        have hA1 := (hb1.block _ hlA).trans HA.out
        have hV1 := (hb1.block _ hlV).trans HV.out
        have hbw1 : Below w.heap.size w w1 := hb.trans (hb1.mono hb.size)
        have c1_ := (hb1.cell (p := ⟨b, off + k * 2 + 1, none⟩) hbl).trans c1
        have hbl1 := Nat.lt_of_lt_of_le hbl hb1.size
        have HS1 := Lib.hid (HS.out.keep hb1)
        clear kA kV fV hlA hlV c0 c1 hb hb1 HS HA HV hbl
        have c1 := c1_; clear c1_
        have kA := box_cells hA1 0; have kV := box_cells hV1; have fV := box_frozen hV1; have hlA := box_lt hA1; have hlV := box_lt hV1
        simp only [List.getElem?_toArray, List.getElem?_cons_zero] at kA
        have HA := Lib.hid hA1; have HV := Lib.hid hV1; clear hA1 hV1
        by_cases hz : msgC xs k x = 0
        · obtain ⟨O, hO⟩ : ∃ O, firstF xs k x.flds 0 x.flds = O := ⟨_, rfl⟩
          have HM := fM_ok HK.out HX.out hz
          rw [hO] at HM
          have HMx := Lib.hid HM; clear HM
          have HO := Lib.hid (show firstF xs k x.flds 0 (x.flds.drop 0) = O from hO); clear hO
          have hz' : (msgC xs k x != 0) = false := by simp [hz]
          rw [hz]
          clear hz hz'
          go_wp2
          obtain ⟨wo, hwo⟩ : ∃ wo : World, wo = w1 := ⟨_, rfl⟩
          rw [← hwo] at HA HV hbw1 HS1 c1 hbl1 kA kV fV hlA hlV ⊢
          clear hwo
          go_loopw [5] (fun j wi => ∃ q : Nat, q ≤ x.flds.length ∧ j = .int .i64 q ∧ Hid (firstF xs k x.flds q (x.flds.drop q) = O) ∧ Below wo.heap.size wo wi) (fun j _ => x.flds.length - (intOf j).toNat)
          case atStart => exact ⟨0, Nat.zero_le _, rfl, HO, Below.refl _ _⟩
          case round =>
            obtain ⟨q, hq, rfl, HQ, hbi⟩ := hrel
            obtain ⟨wi, hwi⟩ : ∃ wi : World, wi = wr := ⟨_, rfl⟩
            rw [← hwi] at hbi ⊢
            clear hwi
            have hAi := (hbi.block _ hlA).trans HA.out
            have hVi := (hbi.block _ hlV).trans HV.out
            have hbwi : Below w.heap.size w wi := hbw1.trans (hbi.mono hbw1.size)
            have c1i := (hbi.cell (p := ⟨b, off + k * 2 + 1, none⟩) hbl1).trans c1
            have HSi := Lib.hid (HS1.out.keep hbi)
            clear kA kV fV c1
            have kA := box_cells hAi 0; have kV := box_cells hVi; have fV := box_frozen hVi; have hlAi := box_lt hAi; have hlVi := box_lt hVi
            simp only [List.getElem?_toArray, List.getElem?_cons_zero] at kA
            have HVi := Lib.hid hVi; clear hVi hAi
            by_cases hlq : q < x.flds.length
            · obtain ⟨f, hf, _⟩ := at_lt (xs := x.flds) (k := q) hlq
              have HF := Lib.hid hf; clear hf
              go_wp2_with fail
              refine (specFieldCode_any (some ⟨b, off, none⟩) cap n k q xs x f wi HSi.out HL.out hn HX.out hlt hfl HF.out hlq).mono ?_
              rintro r w3 ⟨rfl, hb3⟩
              have hV3 := (hb3.block _ hlVi).trans HVi.out
              have hbw3 : Below w.heap.size w w3 := hbwi.trans (hb3.mono hbwi.size)
              have kV3 := box_cells hV3; have fV3 := box_frozen hV3; have hlV3 := box_lt hV3
              have HV3 := Lib.hid hV3; clear hV3 kV fV
              by_cases hz : fldC xs x.flds q f = 0
              · rw [hz]
                have HQ2 := Lib.hid (fF_ok HQ.out HF.out hz)
                clear hz
                go_wp2
                go_roundw
                case rel => exact ⟨q + 1, by omega, by go_num, HQ2, hbi.trans (hb3.mono hbi.size)⟩
                case measure => simp [intOf]; omega
              · have hO2 := fF_bad HQ.out HF.out hz
                have hR2 : (fldC xs x.flds q f, (k : Int), (q : Int)) = R := by have := HMx.out; rw [← hO2] at this; exact this
                have HR2 := Lib.hid hR2; clear hR2 hO2
                have gz : (fldC xs x.flds q f == 0) = false := by simp [hz]
                have gzn : (fldC xs x.flds q f != 0) = true := by simp [hz]
                clear hz
                go_wp2
                refine bodyPost_ret (vio_res (B := w.heap.size + 1) (x := fldC xs x.flds q f) (y := k) (z := q) Tryd.results45 rfl ?_) rfl ⟨?_, by ((repeat (first | (with_reducible exact Below.refl _ _) | (with_reducible assumption) | (with_reducible refine Below.alloc ?_ ?_ _) | (with_reducible refine Below.setCell ?_ ?_ _) | (with_reducible refine Below.drew ?_) | (with_reducible refine below_setRow ?_ ?_ _) | (refine Below.trans ?_ (Below.mono (by assumption) ?_)))); all_goals (first | omega | (simp; done) | (simp; omega)))⟩
                · apply hset_eq (hset_set (hset_set (hset_set HV3.out))); simp only [List.setIfInBounds_toArray, List.set_cons_zero, List.set_cons_succ]
                · rw [← HR2.out]; rfl
            · have hO2 := fF_end HQ.out (by omega)
              have HK2 := Lib.hid (show firstM xs (k + 1) (xs.drop (k + 1)) = R by have := HMx.out; rw [← hO2] at this; exact this)
              clear hO2
              go_wp2
              go_roundw
              case rel => exact ⟨k + 1, by omega, by go_num, HK2, (hbi.block _ hlA).trans HA.out, HVi.out, hbwi⟩
              case measure => simp [intOf]; omega
        · have hR2 := fM_bad HK.out HX.out hz
          have HR2 := Lib.hid hR2; clear hR2
          have gz : (msgC xs k x == 0) = false := by simp [hz]
          have gzn : (msgC xs k x != 0) = true := by simp [hz]
          clear hz
          go_wp2
          refine bodyPost_ret (vio_res (B := w.heap.size + 1) (x := msgC xs k x) (y := k) (z := -1) Tryd.results45 rfl ?_) rfl ⟨?_, by ((repeat (first | (with_reducible exact Below.refl _ _) | (with_reducible assumption) | (with_reducible refine Below.alloc ?_ ?_ _) | (with_reducible refine Below.setCell ?_ ?_ _) | (with_reducible refine Below.drew ?_) | (with_reducible refine below_setRow ?_ ?_ _) | (refine Below.trans ?_ (Below.mono (by assumption) ?_)))); all_goals (first | omega | (simp; done) | (simp; omega)))⟩
          · apply hset_eq (hset_set (hset_set (hset_set HV.out))); simp only [List.setIfInBounds_toArray, List.set_cons_zero, List.set_cons_succ]
          · rw [← HR2.out]; rfl
      · obtain rfl : k = n := by omega
        have hR2 := fM_end HK.out (by rw [HL.out]; omega)
        have HR2 := Lib.hid hR2; clear hR2
        go_wp2
        refine bodyPost_ret (vio_res (B := w.heap.size + 1) (x := 0) (y := 0) (z := 0) Tryd.results45 rfl ?_) rfl ⟨?_, by ((repeat (first | (with_reducible exact Below.refl _ _) | (with_reducible assumption) | (with_reducible refine Below.alloc ?_ ?_ _) | (with_reducible refine Below.setCell ?_ ?_ _) | (with_reducible refine Below.drew ?_) | (with_reducible refine below_setRow ?_ ?_ _) | (refine Below.trans ?_ (Below.mono (by assumption) ?_)))); all_goals (first | omega | (simp; done) | (simp; omega)))⟩
        · apply hset_eq (hset_set (hset_set (hset_set HV.out))); simp only [List.setIfInBounds_toArray, List.set_cons_zero, List.set_cons_succ]
        · rw [← HR2.out]; rfl
end Go.Proofs.YtbpilecgnfnndaaDoor
namespace Go.Proofs.YtbpilecgnfnndaaDoor
set_option linter.unusedSimpArgs false
set_option linter.unusedVariables false
def Dist (fs : List Fld) : Prop := ∀ (k : Nat) (f : Fld), fs[k]? = some f → hasNum (fs.take k) f.number = false
theorem Dist.nil : Dist [] := fun k f h => by simp at h
theorem Dist.snoc {fs : List Fld} {f : Fld} (h : Dist fs) (hf : hasNum fs f.number = false) : Dist (fs ++ [f]) := by
  intro k g hg
  rcases Nat.lt_trichotomy k fs.length with hk | hk | hk
  · rw [List.getElem?_append_left hk] at hg
    rw [List.take_append_of_le_length (by omega)]
    exact h k g hg
  · subst hk
    rw [List.getElem?_append_right (Nat.le_refl _)] at hg
    simp at hg; subst hg
    rw [List.take_left]
    exact hf
  · rw [List.getElem?_eq_none (by simp; omega)] at hg; simp at hg
theorem firstF_none {xs : List Shp} {i : Nat} {fs : List Fld} (h : ∀ (k : Nat) (f : Fld), fs[k]? = some f → fldC xs fs k f = 0) : ∀ (k : Nat), firstF xs i fs k (fs.drop k) = none := by
  intro k
  by_cases hk : k < fs.length
  · have hf : fs[k]? = some fs[k] := List.getElem?_eq_getElem hk
    rw [drop_cons hf, firstF, if_pos (h k _ hf)]
    exact firstF_none h (k + 1)
  · rw [List.drop_of_length_le (by omega), firstF]
termination_by k => fs.length - k
theorem firstM_zero {xs : List Shp} (h : ∀ (i : Nat) (x : Shp), xs[i]? = some x → msgC xs i x = 0 ∧ ∀ (k : Nat) (f : Fld), x.flds[k]? = some f → fldC xs x.flds k f = 0) : ∀ (i : Nat), firstM xs i (xs.drop i) = (0, 0, 0) := by
  intro i
  by_cases hi : i < xs.length
  · have hx : xs[i]? = some xs[i] := List.getElem?_eq_getElem hi
    obtain ⟨h1, h2⟩ := h i _ hx
    rw [drop_cons hx, firstM, if_pos h1]
    have := firstF_none (xs := xs) (i := i) h2 0
    rw [List.drop_zero] at this
    rw [this]
    exact firstM_zero h (i + 1)
  · rw [List.drop_of_length_le (by omega), firstM]
termination_by i => xs.length - i
end Go.Proofs.YtbpilecgnfnndaaDoor
namespace Go.Proofs.YtbpilecgnfnndaaDoor
set_option linter.unusedSimpArgs false
set_option linter.unusedVariables false
open Go.ChangeShapes Go.WideShapes Go.ChangeAt Go.RowKit Go.BigFrame
def msgL (x : Shp) : List UInt8 := Lib.itoa x.id ++ [58] ++ Lib.join (x.flds.map fieldL) [44]
def txtL (xs : List Shp) : List UInt8 := Lib.join (xs.map msgL) [59]
theorem join_snoc (l : List (List UInt8)) (y sep : List UInt8) : Lib.join (l ++ [y]) sep = Lib.join l sep ++ ((if l = [] then [] else sep) ++ y) := by
  cases l with
  | nil => simp [Lib.join_one, Lib.join_nil]
  | cons x r => rw [List.cons_append, Lib.join_cons, Lib.join_cons, if_neg (by simp)]; simp [Lib.joinTail]
theorem join_len (sep : List UInt8) (m : Nat) : ∀ (l : List (List UInt8)), (∀ x ∈ l, x.length ≤ m) → (Lib.join l sep).length ≤ (m + sep.length) * l.length
  | [], _ => by simp [Lib.join_nil]
  | x :: r, h => by
    rw [Lib.join_cons]
    have hx := h x (List.mem_cons_self ..)
    have ht : (Lib.joinTail sep r).length ≤ (m + sep.length) * r.length := by
      have hr : ∀ y ∈ r, y.length ≤ m := fun y hy => h y (List.mem_cons_of_mem _ hy)
      clear h hx
      induction r with
      | nil => simp [Lib.joinTail]
      | cons y r ih =>
        have := ih fun z hz => hr z (List.mem_cons_of_mem _ hz)
        have hy := hr y (List.mem_cons_self ..)
        simp only [Lib.joinTail, List.map_cons, List.flatten_cons, List.length_append, List.length_cons, Nat.mul_succ] at this ⊢
        omega
    simp only [List.length_append, List.length_cons, Nat.mul_succ]
    omega
theorem fieldL_len (f : Fld) : (fieldL f).length ≤ 70 := by
  cases h : fieldOkT f
  · rw [fieldL_bad h]; simp
  · rw [fieldL_ok h]
    have h' := h
    simp only [fieldOkT, Bool.and_eq_true] at h'
    have hA := itoa_len h'.1
    have hK := kindL_len f.kind
    by_cases h8 : f.kind = 8
    · have hm := h'.2.2
      rw [if_pos h8] at hm
      have hm' : 1 ≤ f.msg ∧ f.msg ≤ 99 := by simpa [inB] using hm
      have hM := Lib.itoa_length_le f.msg (by omega) (by omega)
      rw [if_pos h8]
      simp only [List.length_append]
      split <;> split <;> simp <;> omega
    · rw [if_neg h8]
      simp only [List.length_append]
      split <;> split <;> simp <;> omega
structure TxB (xs : List Shp) : Prop where
  n : xs.length ≤ 7
  len : ∀ x ∈ xs, x.flds.length ≤ 14
  id : ∀ x ∈ xs, -9223372036854775808 ≤ x.id ∧ x.id ≤ 9223372036854775807
theorem flds_len {fs : List Fld} (h : fs.length ≤ 14) : (Lib.join (fs.map fieldL) [44]).length ≤ 1000 := by
  have := join_len [44] 70 (fs.map fieldL) (by intro x hx; obtain ⟨f, _, rfl⟩ := List.mem_map.1 hx; exact fieldL_len f)
  simp only [List.length_map, List.length_cons, List.length_nil] at this
  omega
theorem TxB.msg {xs : List Shp} (h : TxB xs) {x : Shp} (hx : x ∈ xs) : (msgL x).length ≤ 1100 := by
  have h1 := flds_len (h.len x hx)
  obtain ⟨h2, h3⟩ := h.id x hx
  have h4 := Lib.itoa_length_le x.id h2 h3
  simp only [msgL, List.length_append, List.length_cons, List.length_nil]
  omega
theorem TxB.txt {xs : List Shp} (h : TxB xs) (k : Nat) : (txtL (xs.take k)).length ≤ 8000 := by
  have := join_len [59] 1100 ((xs.take k).map msgL) (by intro y hy; obtain ⟨x, hx, rfl⟩ := List.mem_map.1 hy; exact h.msg (List.mem_of_mem_take hx))
  simp only [List.length_map, List.length_cons, List.length_nil, List.length_take] at this
  have hn := h.n
  have : min k xs.length ≤ 7 := by omega
  simp only [txtL]
  omega
theorem txt_snoc {xs : List Shp} {k : Nat} {x : Shp} (hx : xs[k]? = some x) : txtL (xs.take (k + 1)) = txtL (xs.take k) ++ ((if k = 0 then [] else [59]) ++ msgL x) := by
  rw [txtL, List.take_add_one, hx, Option.toList_some, List.map_append, List.map_cons, List.map_nil, join_snoc]
  have hk := (List.getElem?_eq_some_iff.1 hx).1
  congr 2
  by_cases h0 : k = 0
  · subst h0; simp
  · rw [if_neg h0, if_neg]
    intro e
    have := congrArg List.length e
    simp only [List.length_map, List.length_take, List.length_nil] at this
    omega
theorem fld_snoc {fs : List Fld} {k : Nat} {f : Fld} (hf : fs[k]? = some f) : Lib.join ((fs.take (k + 1)).map fieldL) [44] = Lib.join ((fs.take k).map fieldL) [44] ++ ((if k = 0 then [] else [44]) ++ fieldL f) := by
  rw [List.take_add_one, hf, Option.toList_some, List.map_append, List.map_cons, List.map_nil, join_snoc]
  have hk := (List.getElem?_eq_some_iff.1 hf).1
  congr 2
  by_cases h0 : k = 0
  · subst h0; simp
  · rw [if_neg h0, if_neg]
    intro e
    have := congrArg List.length e
    simp only [List.length_map, List.length_take, List.length_nil] at this
    omega
theorem fld_take_len {fs : List Fld} (h : fs.length ≤ 14) (k : Nat) : (Lib.join ((fs.take k).map fieldL) [44]).length ≤ 1000 := flds_len (by rw [List.length_take]; omega)
def sepK (k : Nat) : List UInt8 := if k = 0 then [] else [59]
def sepF (k : Nat) : List UInt8 := if k = 0 then [] else [44]
theorem shs_lookT {w : World} {b off k : Nat} {x : Shp} {xs : List Shp} (h : Shs w (some ⟨b, off, none⟩) xs) (hx : xs[k]? = some x) : ∃ a' cap', b < w.heap.size ∧ w.cell? ⟨b, off + k * 2, none⟩ = some (.int .i64 x.id) ∧ w.cell? ⟨b, off + k * 2 + 1, none⟩ = some (.slice a' x.flds.length cap') ∧ Flds w a' x.flds := by
  obtain ⟨b', off', a', cap', e, hl, c0, c1, hf⟩ := Shs.at h hx
  simp only [Option.some.injEq, Addr.mk.injEq, and_true] at e
  obtain ⟨rfl, rfl⟩ := e
  exact ⟨a', cap', hl, c0, c1, hf⟩
set_option maxRecDepth 100000 in
set_option maxHeartbeats 8000000 in
theorem l9Text_any (a : Option Addr) (cap n : Nat) (xs : List Shp) (w : World) (h : Shs w a xs) (hx : xs.length = n) (hB : TxB xs) :
    Calls Tryd.prog 31 #[.agg #[.slice a n cap]] w fun r w' => r = .returned (.string (sB (txtL xs))) ∧ Below w.heap.size w w' := by
  have HX := Lib.hid hx; clear hx
  have HSs := Lib.hid h; clear h
  have hn7 : n ≤ 7 := by have := hB.n; have := HX.out; omega
  have HBb := Lib.hid hB; clear hB
  go_enter Tryd.func31, Tryd.ntmps31
  go_wp2_with fail
  go_loopw [3, 4] (fun sv i wr => ∃ k : Nat, k ≤ n ∧ i = .int .i64 k ∧ (∃ l, sv = .string ⟨l.toArray⟩ ∧ Hid (l = txtL (xs.take k))) ∧ wr.cell? ⟨w.heap.size, 0, none⟩ = some (.slice a n cap) ∧ w.heap.size < wr.heap.size ∧ Below w.heap.size w wr) (fun _ i _ => n - (intOf i).toNat)
  case atStart => exact ⟨0, Nat.zero_le _, rfl, ⟨[], rfl, Lib.hid (by simp [txtL, Lib.join_nil])⟩, box_cells (hset_new rfl) 0, by simp, by ((repeat (first | (with_reducible exact Below.refl _ _) | (with_reducible assumption) | (with_reducible refine Below.alloc ?_ ?_ _) | (with_reducible refine Below.setCell ?_ ?_ _) | (with_reducible refine Below.drew ?_) | (with_reducible refine below_setRow ?_ ?_ _) | (refine Below.trans ?_ (Below.mono (by assumption) ?_)))); all_goals (first | omega | (simp; done) | (simp; omega)))⟩
  case round =>
    obtain ⟨k, hk, rfl, ⟨l, rfl, HL⟩, kB, hBl, hb⟩ := hrel
    by_cases hlt : k < n
    · obtain ⟨x, hx, hxm⟩ := at_lt (xs := xs) (k := k) (by rw [HX.out]; exact hlt)
      have hl8 : l.length ≤ 8000 := by rw [HL.out]; exact HBb.out.txt k
      have hx14 := HBb.out.len x hxm
      obtain ⟨hi0, hi1⟩ := HBb.out.id x hxm
      have HXk := Lib.hid hx; clear hx
      have hSs := HSs.out.below hb (Nat.le_refl _)
      obtain ⟨b, off, a', cap', rfl, hbl, c0, c1, hfs⟩ := Shs.at hSs HXk.out
      have HFs := Lib.hid hfs; clear hfs hSs
      have hD := Lib.itoa_length_le x.id hi0 hi1
      obtain ⟨D, hDe⟩ : ∃ D, Lib.itoa x.id = D := ⟨_, rfl⟩
      have hdig : ∀ W : World, Calls Tryd.prog 23 #[.int .i64 x.id] W fun r w' => r = .returned (.string ⟨D.toArray⟩) ∧ Below W.heap.size W w' := fun W => by
        have := specDigits_any x.id W hi0 hi1
        rw [numB, hDe] at this; exact this
      rw [hDe] at hD
      have HDE := Lib.hid hDe; clear hDe
      have ee : ¬ 9223372036854775807 < l.length + 1 := by omega
      have hcat0 := bytes_cat l [59]
      obtain ⟨l', hl', HL', hcase⟩ : ∃ l', l'.length ≤ 8001 ∧ Hid (l' = txtL (xs.take k) ++ sepK k) ∧ ((k = 0 ∧ l' = l) ∨ (0 < k ∧ l' = l ++ [59])) := by
        by_cases h0 : k = 0
        · exact ⟨l, by omega, Lib.hid (by rw [HL.out, sepK, if_pos h0]; simp), .inl ⟨h0, rfl⟩⟩
        · exact ⟨l ++ [59], by simp; omega, Lib.hid (by rw [HL.out, sepK, if_neg h0]), .inr ⟨by omega, rfl⟩⟩
      have e1 : ¬ 9223372036854775807 < l'.length + D.length := by omega
      have e2 : ¬ 9223372036854775807 < l'.length + D.length + 1 := by omega
      have hcat : ((⟨l'.toArray⟩ : ByteArray) ++ ⟨D.toArray⟩) ++ ⟨[58].toArray⟩ = ⟨(l' ++ D ++ [58]).toArray⟩ := by rw [bytes_cat, bytes_cat]
      rcases hcase with ⟨h0, hll⟩ | ⟨h0, hll⟩
      · subst hll
        have hk0 : ¬ 0 < k := by omega
        clear h0
        go_wp2_with fail
        refine (hdig _).mono ?_
        rintro r w1 ⟨rfl, hb1⟩
        have kB1 := (hb1.cell (p := ⟨w.heap.size, 0, none⟩) hBl).trans kB
        have hBl1 := Nat.lt_of_lt_of_le hBl hb1.size
        have hT1 : Below w.heap.size w w1 := hb.trans (hb1.mono hb.size)
        obtain ⟨P, hP⟩ : ∃ P, l' ++ D ++ [58] = P := ⟨_, rfl⟩
        have hPl : P.length ≤ 8100 := by rw [← hP]; simp; omega
        have HP := Lib.hid (show P = txtL (xs.take k) ++ sepK k ++ Lib.itoa x.id ++ [58] by rw [← hP, HL'.out, HDE.out])
        rw [hP] at hcat
        clear hP HL' HDE hdig hb1 hD hl8
        go_wp2_with fail
        go_loopw [3, 5] (fun sv j wi => ∃ q : Nat, q ≤ x.flds.length ∧ j = .int .i64 q ∧ (∃ l, sv = .string ⟨l.toArray⟩ ∧ Hid (l = P ++ Lib.join ((x.flds.take q).map fieldL) [44])) ∧ wi.cell? ⟨w.heap.size, 0, none⟩ = some (.slice (some ⟨b, off, none⟩) n cap) ∧ w.heap.size < wi.heap.size ∧ Below w.heap.size w wi) (fun _ j _ => x.flds.length - (intOf j).toNat)
        case atStart => exact ⟨0, Nat.zero_le _, rfl, ⟨P, rfl, Lib.hid (by simp [Lib.join_nil])⟩, kB1, hBl1, hT1⟩
        case round =>
          clear kB hBl c0 c1 hbl HFs e1 e2 ee hcat0 hcat hb kB1 hBl1 hT1
          obtain ⟨q, hq, rfl, ⟨m, rfl, HM⟩, kB, hBl, hbi⟩ := hrel
          have hSs := HSs.out.below hbi (Nat.le_refl _)
          obtain ⟨a2, cap2, hbl, c0, c1, hfs⟩ := shs_lookT hSs HXk.out
          have hml : m.length ≤ 9100 := by rw [HM.out]; have := fld_take_len hx14 q; simp only [List.length_append]; omega
          by_cases hlq : q < x.flds.length
          · obtain ⟨f, hf, hfm⟩ := at_lt (xs := x.flds) (k := q) hlq
            obtain ⟨b3, off3, rfl, hl3, d0, d1, d2, d3, d4⟩ := Flds.at hfs hf
            have HFk := Lib.hid hf
            have hGl := fieldL_len f
            obtain ⟨G, hG⟩ : ∃ G, fieldL f = G := ⟨_, rfl⟩
            have hft : ∀ W : World, Calls Tryd.prog 7 #[.agg #[.int .i64 f.number, .int .i64 f.kind, .bool f.rep, .bool f.packed, .int .i64 f.msg]] W fun r w' => r = .returned (.string ⟨G.toArray⟩) ∧ Below W.heap.size W w' := fun W => by
              have := specFieldText_any f W
              rw [sB, hG] at this; exact this
            rw [hG] at hGl
            have HG := Lib.hid hG; clear hG hf hfm hfs hSs
            have ee : ¬ 9223372036854775807 < m.length + 1 := by omega
            have hcat0 := bytes_cat m [44]
            obtain ⟨m', hm', HM', hcase⟩ : ∃ m', m'.length ≤ 9101 ∧ Hid (m' = P ++ Lib.join ((x.flds.take q).map fieldL) [44] ++ sepF q) ∧ ((q = 0 ∧ m' = m) ∨ (0 < q ∧ m' = m ++ [44])) := by
              by_cases h0 : q = 0
              · exact ⟨m, by omega, Lib.hid (by rw [HM.out, sepF, if_pos h0]; simp), .inl ⟨h0, rfl⟩⟩
              · exact ⟨m ++ [44], by simp; omega, Lib.hid (by rw [HM.out, sepF, if_neg h0]), .inr ⟨by omega, rfl⟩⟩
            have e1 : ¬ 9223372036854775807 < m'.length + G.length := by omega
            have hqn : (q : Int) < (x.flds.length : Int) := by omega
            rcases hcase with ⟨h0, hmm⟩ | ⟨h0, hmm⟩
            · subst hmm
              have hq0 : ¬ 0 < q := by omega
              clear h0
              go_wp2_with fail
              refine (hft _).mono ?_
              rintro r w2 ⟨rfl, hb2⟩
              have kB2 := (hb2.cell (p := ⟨w.heap.size, 0, none⟩) hBl).trans kB
              have hBl2 := Nat.lt_of_lt_of_le hBl hb2.size
              have hT2 : Below w.heap.size w w2 := hbi.trans (hb2.mono hbi.size)
              have hcat3 := bytes_cat m' G
              obtain ⟨M2, hM2⟩ : ∃ M2, m' ++ G = M2 := ⟨_, rfl⟩
              rw [hM2] at hcat3
              have HM2 := Lib.hid (show M2 = P ++ Lib.join ((x.flds.take (q + 1)).map fieldL) [44] by rw [← hM2, HM'.out, fld_snoc HFk.out, ← HG.out, sepF]; simp [List.append_assoc])
              clear hM2
              go_wp2_with fail
              go_roundw
              case rel => exact ⟨q + 1, by omega, by go_num, ⟨M2, rfl, HM2⟩, kB2, hBl2, hT2⟩
              case measure => simp [intOf]; omega
            · rw [← hmm] at hcat0
              clear hmm
              go_wp2_with fail
              refine (hft _).mono ?_
              rintro r w2 ⟨rfl, hb2⟩
              have kB2 := (hb2.cell (p := ⟨w.heap.size, 0, none⟩) hBl).trans kB
              have hBl2 := Nat.lt_of_lt_of_le hBl hb2.size
              have hT2 : Below w.heap.size w w2 := hbi.trans (hb2.mono hbi.size)
              have hcat3 := bytes_cat m' G
              obtain ⟨M2, hM2⟩ : ∃ M2, m' ++ G = M2 := ⟨_, rfl⟩
              rw [hM2] at hcat3
              have HM2 := Lib.hid (show M2 = P ++ Lib.join ((x.flds.take (q + 1)).map fieldL) [44] by rw [← hM2, HM'.out, fld_snoc HFk.out, ← HG.out, sepF]; simp [List.append_assoc])
              clear hM2
              go_wp2_with fail
              go_roundw
              case rel => exact ⟨q + 1, by omega, by go_num, ⟨M2, rfl, HM2⟩, kB2, hBl2, hT2⟩
              case measure => simp [intOf]; omega
          · have HN := Lib.hid (show m = txtL (xs.take (k + 1)) by rw [HM.out, List.take_of_length_le (by omega), HP.out, txt_snoc HXk.out, msgL, sepK]; simp [List.append_assoc])
            clear hfs hSs
            go_wp2_with fail
            go_roundw
            case rel => exact ⟨k + 1, by omega, by go_num, ⟨m, rfl, HN⟩, kB, hBl, hbi⟩
            case measure => simp [intOf]; omega
      · rw [← hll] at hcat0
        clear hll
        go_wp2_with fail
        refine (hdig _).mono ?_
        rintro r w1 ⟨rfl, hb1⟩
        have kB1 := (hb1.cell (p := ⟨w.heap.size, 0, none⟩) hBl).trans kB
        have hBl1 := Nat.lt_of_lt_of_le hBl hb1.size
        have hT1 : Below w.heap.size w w1 := hb.trans (hb1.mono hb.size)
        obtain ⟨P, hP⟩ : ∃ P, l' ++ D ++ [58] = P := ⟨_, rfl⟩
        have hPl : P.length ≤ 8100 := by rw [← hP]; simp; omega
        have HP := Lib.hid (show P = txtL (xs.take k) ++ sepK k ++ Lib.itoa x.id ++ [58] by rw [← hP, HL'.out, HDE.out])
        rw [hP] at hcat
        clear hP HL' HDE hdig hb1 hD hl8
        go_wp2_with fail
        go_loopw [3, 5] (fun sv j wi => ∃ q : Nat, q ≤ x.flds.length ∧ j = .int .i64 q ∧ (∃ l, sv = .string ⟨l.toArray⟩ ∧ Hid (l = P ++ Lib.join ((x.flds.take q).map fieldL) [44])) ∧ wi.cell? ⟨w.heap.size, 0, none⟩ = some (.slice (some ⟨b, off, none⟩) n cap) ∧ w.heap.size < wi.heap.size ∧ Below w.heap.size w wi) (fun _ j _ => x.flds.length - (intOf j).toNat)
        case atStart => exact ⟨0, Nat.zero_le _, rfl, ⟨P, rfl, Lib.hid (by simp [Lib.join_nil])⟩, kB1, hBl1, hT1⟩
        case round =>
          clear kB hBl c0 c1 hbl HFs e1 e2 ee hcat0 hcat hb kB1 hBl1 hT1
          obtain ⟨q, hq, rfl, ⟨m, rfl, HM⟩, kB, hBl, hbi⟩ := hrel
          have hSs := HSs.out.below hbi (Nat.le_refl _)
          obtain ⟨a2, cap2, hbl, c0, c1, hfs⟩ := shs_lookT hSs HXk.out
          have hml : m.length ≤ 9100 := by rw [HM.out]; have := fld_take_len hx14 q; simp only [List.length_append]; omega
          by_cases hlq : q < x.flds.length
          · obtain ⟨f, hf, hfm⟩ := at_lt (xs := x.flds) (k := q) hlq
            obtain ⟨b3, off3, rfl, hl3, d0, d1, d2, d3, d4⟩ := Flds.at hfs hf
            have HFk := Lib.hid hf
            have hGl := fieldL_len f
            obtain ⟨G, hG⟩ : ∃ G, fieldL f = G := ⟨_, rfl⟩
            have hft : ∀ W : World, Calls Tryd.prog 7 #[.agg #[.int .i64 f.number, .int .i64 f.kind, .bool f.rep, .bool f.packed, .int .i64 f.msg]] W fun r w' => r = .returned (.string ⟨G.toArray⟩) ∧ Below W.heap.size W w' := fun W => by
              have := specFieldText_any f W
              rw [sB, hG] at this; exact this
            rw [hG] at hGl
            have HG := Lib.hid hG; clear hG hf hfm hfs hSs
            have ee : ¬ 9223372036854775807 < m.length + 1 := by omega
            have hcat0 := bytes_cat m [44]
            obtain ⟨m', hm', HM', hcase⟩ : ∃ m', m'.length ≤ 9101 ∧ Hid (m' = P ++ Lib.join ((x.flds.take q).map fieldL) [44] ++ sepF q) ∧ ((q = 0 ∧ m' = m) ∨ (0 < q ∧ m' = m ++ [44])) := by
              by_cases h0 : q = 0
              · exact ⟨m, by omega, Lib.hid (by rw [HM.out, sepF, if_pos h0]; simp), .inl ⟨h0, rfl⟩⟩
              · exact ⟨m ++ [44], by simp; omega, Lib.hid (by rw [HM.out, sepF, if_neg h0]), .inr ⟨by omega, rfl⟩⟩
            have e1 : ¬ 9223372036854775807 < m'.length + G.length := by omega
            have hqn : (q : Int) < (x.flds.length : Int) := by omega
            rcases hcase with ⟨h0, hmm⟩ | ⟨h0, hmm⟩
            · subst hmm
              have hq0 : ¬ 0 < q := by omega
              clear h0
              go_wp2_with fail
              refine (hft _).mono ?_
              rintro r w2 ⟨rfl, hb2⟩
              have kB2 := (hb2.cell (p := ⟨w.heap.size, 0, none⟩) hBl).trans kB
              have hBl2 := Nat.lt_of_lt_of_le hBl hb2.size
              have hT2 : Below w.heap.size w w2 := hbi.trans (hb2.mono hbi.size)
              have hcat3 := bytes_cat m' G
              obtain ⟨M2, hM2⟩ : ∃ M2, m' ++ G = M2 := ⟨_, rfl⟩
              rw [hM2] at hcat3
              have HM2 := Lib.hid (show M2 = P ++ Lib.join ((x.flds.take (q + 1)).map fieldL) [44] by rw [← hM2, HM'.out, fld_snoc HFk.out, ← HG.out, sepF]; simp [List.append_assoc])
              clear hM2
              go_wp2_with fail
              go_roundw
              case rel => exact ⟨q + 1, by omega, by go_num, ⟨M2, rfl, HM2⟩, kB2, hBl2, hT2⟩
              case measure => simp [intOf]; omega
            · rw [← hmm] at hcat0
              clear hmm
              go_wp2_with fail
              refine (hft _).mono ?_
              rintro r w2 ⟨rfl, hb2⟩
              have kB2 := (hb2.cell (p := ⟨w.heap.size, 0, none⟩) hBl).trans kB
              have hBl2 := Nat.lt_of_lt_of_le hBl hb2.size
              have hT2 : Below w.heap.size w w2 := hbi.trans (hb2.mono hbi.size)
              have hcat3 := bytes_cat m' G
              obtain ⟨M2, hM2⟩ : ∃ M2, m' ++ G = M2 := ⟨_, rfl⟩
              rw [hM2] at hcat3
              have HM2 := Lib.hid (show M2 = P ++ Lib.join ((x.flds.take (q + 1)).map fieldL) [44] by rw [← hM2, HM'.out, fld_snoc HFk.out, ← HG.out, sepF]; simp [List.append_assoc])
              clear hM2
              go_wp2_with fail
              go_roundw
              case rel => exact ⟨q + 1, by omega, by go_num, ⟨M2, rfl, HM2⟩, kB2, hBl2, hT2⟩
              case measure => simp [intOf]; omega
          · have HN := Lib.hid (show m = txtL (xs.take (k + 1)) by rw [HM.out, List.take_of_length_le (by omega), HP.out, txt_snoc HXk.out, msgL, sepK]; simp [List.append_assoc])
            clear hfs hSs
            go_wp2_with fail
            go_roundw
            case rel => exact ⟨k + 1, by omega, by go_num, ⟨m, rfl, HN⟩, kB, hBl, hbi⟩
            case measure => simp [intOf]; omega
    · have hl : l = txtL xs := by rw [HL.out, List.take_of_length_le (by rw [HX.out]; omega)]
      subst hl
      go_wp2_with fail
      go_ret
      exact ⟨rfl, hb⟩
end Go.Proofs.YtbpilecgnfnndaaDoor

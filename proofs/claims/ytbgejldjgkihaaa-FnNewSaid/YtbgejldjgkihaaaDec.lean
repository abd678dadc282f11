/- Decoders: what the laws' own functions do with them. (Printed by wip/tools/decgen.py.) -/
import Derived.Test.YtbgejldjgkihaaaOpen
import Derived.Test.YtbgejldjgkihaaaLvls
namespace Go.Proofs.Ytbgejldjgkihaaa
set_option linter.unusedSimpArgs false
set_option linter.unusedVariables false
open Go.ChangeShapes Go.WideShapes Go.ChangeAt Go.RowKit Go.BigFrame

structure Ut where
  want : Int
  low : Int
  high : Int
  deriving DecidableEq
@[reducible] def Ut.val (u : Ut) : Value := .agg #[.int .i64 u.want, .int .i64 u.low, .int .i64 u.high]
/-- A decoder without its shapes and levels. -/
structure Dc where
  p : Pl
  mode : Int
  bits : Int
  have_ : Int
  start : Int
  at_ : Int
  field : Fld
  wire : Int
  want : Int
  utf : Ut
  end_ : Ev
  deriving DecidableEq
@[reducible] def Dc.val (d : Dc) (sh st : Value) : Value := .agg #[sh, .int .i64 d.p.root, .int .i64 d.p.deep, .int .i64 d.p.most, .int .i64 d.mode, st, .int .u64 d.bits, .int .i64 d.have_, .int .i64 d.start, .int .i64 d.at_, .int .i64 d.field.number, .int .i64 d.field.kind, .bool d.field.rep, .bool d.field.packed, .int .i64 d.field.msg, .int .i64 d.wire, .int .i64 d.want, .int .i64 d.utf.want, .int .i64 d.utf.low, .int .i64 d.utf.high, .int .i64 d.end_.kind, .int .i64 d.end_.field, .int .u64 d.end_.bits, .int .i64 d.end_.len, .string d.end_.text, .int .i64 d.end_.code, .int .i64 d.end_.at_]
/-- The cells of a decoder. -/
@[reducible] def Dc.cl (d : Dc) (sh st : Value) : List Value := [sh, .int .i64 d.p.root, .int .i64 d.p.deep, .int .i64 d.p.most, .int .i64 d.mode, st, .int .u64 d.bits, .int .i64 d.have_, .int .i64 d.start, .int .i64 d.at_, .int .i64 d.field.number, .int .i64 d.field.kind, .bool d.field.rep, .bool d.field.packed, .int .i64 d.field.msg, .int .i64 d.wire, .int .i64 d.want, .int .i64 d.utf.want, .int .i64 d.utf.low, .int .i64 d.utf.high, .int .i64 d.end_.kind, .int .i64 d.end_.field, .int .u64 d.end_.bits, .int .i64 d.end_.len, .string d.end_.text, .int .i64 d.end_.code, .int .i64 d.end_.at_]
structure Dc.ok (d : Dc) : Prop where
  root : W64 d.p.root
  deep : W64 d.p.deep
  most : W64 d.p.most
  mode : W64 d.mode
  bits : WU64 d.bits
  have_ : W64 d.have_
  start : W64 d.start
  at_ : W64 d.at_
  field : d.field.ok
  wire : W64 d.wire
  want : W64 d.want
  uwant : W64 d.utf.want
  ulow : W64 d.utf.low
  uhigh : W64 d.utf.high
  end_ : d.end_.ok
@[reducible] def lvlCK : List CK := [CK.int .i64, .int .i64]
theorem lvl_of_cells {w : World} {cs : List Value} {N : Nat} (hl : cs.length = 2) (h : ∀ (j : Nat) (ck : CK), lvlCK[j]? = some ck → ∃ x, cs[j]? = some x ∧ ck.ok w (N + 1) x) : ∃ e : Lvl, cs = e.cs ∧ e.ok := by
  match cs, hl with
  | [c0, c1], _ =>
    obtain ⟨x0, e0, h0⟩ := h 0 _ rfl
    obtain ⟨x1, e1, h1⟩ := h 1 _ rfl
    obtain ⟨n0, rfl, w0⟩ := ok_int (w := w) (h0 : (CK.int .i64).ok w 1 x0)
    obtain ⟨n1, rfl, w1⟩ := ok_int (w := w) (h1 : (CK.int .i64).ok w 1 x1)
    simp at e0 e1
    exact ⟨⟨n0, n1⟩, by simp [Lvl.cs, e0, e1], ⟨w0, w1⟩⟩
theorem lvls_open {w : World} {v : Value} {N : Nat} (h : (CK.sl lvlCK).ok w (N + 2) v) : ∃ x : SlArg Lvl, v = x.val ∧ x.ok 2 Lvl.cs Lvl.ok w :=
  sl_open (sz := 2) (α := Lvl) (cs := Lvl.cs) (OK := Lvl.ok) (N := N + 1) h rfl (by omega) lvl_len fun l hl hj => lvl_of_cells hl hj
/-- A decoder that came in. -/
structure DcArg where
  d : Dc
  s : ShArg
  l : SlArg Lvl
@[reducible] def DcArg.val (x : DcArg) : Value := x.d.val x.s.sl x.l.val
structure DcArg.ok (x : DcArg) (w : World) : Prop where
  d : x.d.ok
  s : x.s.ok w
  l : x.l.ok 2 Lvl.cs Lvl.ok w
/-- What the size of a decoder leaves. -/
def szD (n : Int) (xs : List Shp) (ls : List Lvl) (t : Nat) : Int := if n < (xs.length : Int) + fldSum xs + ls.length + t then -1 else n - xs.length - fldSum xs - ls.length - t
def FreshDec (w : World) (T TF TL : TypeId) (d : Dc) (xs : List Shp) (ls : List Lvl) (r : Ending) (w' : World) : Prop :=
  ∃ a cap rs sa scap, r = .returned (d.val (.slice a xs.length cap) (.slice sa ls.length scap)) ∧ OwnShs w' w.heap.size T TF (.slice a xs.length cap) xs.length rs xs ∧ w'.ownsRow w.heap.size TL 2 (.slice sa ls.length scap) ls.length (ls.flatMap Lvl.cs) ∧ Below w.heap.size w w'
end Go.Proofs.Ytbgejldjgkihaaa

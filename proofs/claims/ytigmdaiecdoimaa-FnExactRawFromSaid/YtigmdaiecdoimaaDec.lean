/- Decoders: what the laws' own functions do with them. (Printed by wip/tools/decgen.py.) -/
import Derived.Test.YtigmdaiecdoimaaOpen
import Derived.Test.YtigmdaiecdoimaaLvls
namespace Go.Proofs.Ytigmdaiecdoimaa
set_option linter.unusedSimpArgs false
set_option linter.unusedVariables false
open Go.ChangeShapes Go.WideShapes Go.ChangeAt Go.RowKit Go.BigFrame

structure Ut where
  want : Int
  low : Int
  high : Int
  deriving DecidableEq
@[reducible] def Ut.val (u : Ut) : Value := .agg #[.int .i64 u.want, .int .i64 u.low, .int .i64 u.high]
/-- A decoder without its shapes and levels. -/
structure Dc where
  p : Pl
  mode : Int
  bits : Int
  have_ : Int
  start : Int
  at_ : Int
  field : Fld
  wire : Int
  want : Int
  utf : Ut
  end_ : Ev
  deriving DecidableEq
@[reducible] def Dc.val (d : Dc) (sh st : Value) : Value := .agg #[sh, .int .i64 d.p.root, .int .i64 d.p.deep, .int .i64 d.p.most, .int .i64 d.mode, st, .int .u64 d.bits, .int .i64 d.have_, .int .i64 d.start, .int .i64 d.at_, .int .i64 d.field.number, .int .i64 d.field.kind, .bool d.field.rep, .bool d.field.packed, .int .i64 d.field.msg, .int .i64 d.wire, .int .i64 d.want, .int .i64 d.utf.want, .int .i64 d.utf.low, .int .i64 d.utf.high, .int .i64 d.end_.kind, .int .i64 d.end_.field, .int .u64 d.end_.bits, .int .i64 d.end_.len, .string d.end_.text, .int .i64 d.end_.code, .int .i64 d.end_.at_]
/-- The cells of a decoder. -/
@[reducible] def Dc.cl (d : Dc) (sh st : Value) : List Value := [sh, .int .i64 d.p.root, .int .i64 d.p.deep, .int .i64 d.p.most, .int .i64 d.mode, st, .int .u64 d.bits, .int .i64 d.have_, .int .i64 d.start, .int .i64 d.at_, .int .i64 d.field.number, .int .i64 d.field.kind, .bool d.field.rep, .bool d.field.packed, .int .i64 d.field.msg, .int .i64 d.wire, .int .i64 d.want, .int .i64 d.utf.want, .int .i64 d.utf.low, .int .i64 d.utf.high, .int .i64 d.end_.kind, .int .i64 d.end_.field, .int .u64 d.end_.bits, .int .i64 d.end_.len, .string d.end_.text, .int .i64 d.end_.code, .int .i64 d.end_.at_]
structure Dc.ok (d : Dc) : Prop where
  root : W64 d.p.root
  deep : W64 d.p.deep
  most : W64 d.p.most
  mode : W64 d.mode
  bits : WU64 d.bits
  have_ : W64 d.have_
  start : W64 d.start
  at_ : W64 d.at_
  field : d.field.ok
  wire : W64 d.wire
  want : W64 d.want
  uwant : W64 d.utf.want
  ulow : W64 d.utf.low
  uhigh : W64 d.utf.high
  end_ : d.end_.ok
@[reducible] def lvlCK : List CK := [CK.int .i64, .int .i64]
theorem lvl_of_cells {w : World} {cs : List Value} {N : Nat} (hl : cs.length = 2) (h : ∀ (j : Nat) (ck : CK), lvlCK[j]? = some ck → ∃ x, cs[j]? = some x ∧ ck.ok w (N + 1) x) : ∃ e : Lvl, cs = e.cs ∧ e.ok := by
  match cs, hl with
  | [c0, c1], _ =>
    obtain ⟨x0, e0, h0⟩ := h 0 _ rfl
    obtain ⟨x1, e1, h1⟩ := h 1 _ rfl
    obtain ⟨n0, rfl, w0⟩ := ok_int (w := w) (h0 : (CK.int .i64).ok w 1 x0)
    obtain ⟨n1, rfl, w1⟩ := ok_int (w := w) (h1 : (CK.int .i64).ok w 1 x1)
    simp at e0 e1
    exact ⟨⟨n0, n1⟩, by simp [Lvl.cs, e0, e1], ⟨w0, w1⟩⟩
theorem lvls_open {w : World} {v : Value} {N : Nat} (h : (CK.sl lvlCK).ok w (N + 2) v) : ∃ x : SlArg Lvl, v = x.val ∧ x.ok 2 Lvl.cs Lvl.ok w :=
  sl_open (sz := 2) (α := Lvl) (cs := Lvl.cs) (OK := Lvl.ok) (N := N + 1) h rfl (by omega) lvl_len fun l hl hj => lvl_of_cells hl hj
/-- A decoder that came in. -/
structure DcArg where
  d : Dc
  s : ShArg
  l : SlArg Lvl
@[reducible] def DcArg.val (x : DcArg) : Value := x.d.val x.s.sl x.l.val
structure DcArg.ok (x : DcArg) (w : World) : Prop where
  d : x.d.ok
  s : x.s.ok w
  l : x.l.ok 2 Lvl.cs Lvl.ok w
section
variable {H : Type} {enc : TypeId × Value → H} {W : World} {base : Nat} {sp : Nat → Bool} {v : Value} {d : DataW H} {ps : List MemPlace}
theorem flat_dec : flat Try.prog 9 83 = some [CK.sl shpCK, .int .i64, .int .i64, .int .i64, .int .i64, .sl lvlCK, .int .u64, .int .i64, .int .i64, .int .i64, .int .i64, .int .i64, .bool, .bool, .int .i64, .int .i64, .int .i64, .int .i64, .int .i64, .int .i64, .int .i64, .int .i64, .int .u64, .int .i64, .str, .int .i64, .int .i64] := by kernel_rfl
theorem cells_dec : Try.prog.cellsOf 83 = 27 := by kernel_rfl
set_option maxRecDepth 100000 in
set_option maxHeartbeats 2000000 in
theorem openDec (hv : Value.okWide Try.prog W .any base 83 v) (h : DataW.Trod enc Try.prog W 0 sp true 83 v d ps) : ∃ x : DcArg, v = x.val ∧ x.ok W := by
  obtain ⟨cs, rfl, hsz⟩ := agg_of_okWide Try.underlying83 hv
  have hf := flat_trod flat_dec cells_dec h
  obtain ⟨x0, e0, k0⟩ := hf 0 _ rfl
  obtain ⟨x1, e1, k1⟩ := hf 1 _ rfl
  obtain ⟨x2, e2, k2⟩ := hf 2 _ rfl
  obtain ⟨x3, e3, k3⟩ := hf 3 _ rfl
  obtain ⟨x4, e4, k4⟩ := hf 4 _ rfl
  obtain ⟨x5, e5, k5⟩ := hf 5 _ rfl
  obtain ⟨x6, e6, k6⟩ := hf 6 _ rfl
  obtain ⟨x7, e7, k7⟩ := hf 7 _ rfl
  obtain ⟨x8, e8, k8⟩ := hf 8 _ rfl
  obtain ⟨x9, e9, k9⟩ := hf 9 _ rfl
  obtain ⟨x10, e10, k10⟩ := hf 10 _ rfl
  obtain ⟨x11, e11, k11⟩ := hf 11 _ rfl
  obtain ⟨x12, e12, k12⟩ := hf 12 _ rfl
  obtain ⟨x13, e13, k13⟩ := hf 13 _ rfl
  obtain ⟨x14, e14, k14⟩ := hf 14 _ rfl
  obtain ⟨x15, e15, k15⟩ := hf 15 _ rfl
  obtain ⟨x16, e16, k16⟩ := hf 16 _ rfl
  obtain ⟨x17, e17, k17⟩ := hf 17 _ rfl
  obtain ⟨x18, e18, k18⟩ := hf 18 _ rfl
  obtain ⟨x19, e19, k19⟩ := hf 19 _ rfl
  obtain ⟨x20, e20, k20⟩ := hf 20 _ rfl
  obtain ⟨x21, e21, k21⟩ := hf 21 _ rfl
  obtain ⟨x22, e22, k22⟩ := hf 22 _ rfl
  obtain ⟨x23, e23, k23⟩ := hf 23 _ rfl
  obtain ⟨x24, e24, k24⟩ := hf 24 _ rfl
  obtain ⟨x25, e25, k25⟩ := hf 25 _ rfl
  obtain ⟨x26, e26, k26⟩ := hf 26 _ rfl
  obtain ⟨sh, rfl, hsh⟩ := shs_open (k0 3)
  obtain ⟨n1, rfl, w1⟩ := ok_int (k1 1)
  obtain ⟨n2, rfl, w2⟩ := ok_int (k2 1)
  obtain ⟨n3, rfl, w3⟩ := ok_int (k3 1)
  obtain ⟨n4, rfl, w4⟩ := ok_int (k4 1)
  obtain ⟨st, rfl, hst⟩ := lvls_open (k5 2)
  obtain ⟨n6, rfl, w6⟩ := ok_int (k6 1)
  obtain ⟨n7, rfl, w7⟩ := ok_int (k7 1)
  obtain ⟨n8, rfl, w8⟩ := ok_int (k8 1)
  obtain ⟨n9, rfl, w9⟩ := ok_int (k9 1)
  obtain ⟨n10, rfl, w10⟩ := ok_int (k10 1)
  obtain ⟨n11, rfl, w11⟩ := ok_int (k11 1)
  obtain ⟨n12, rfl⟩ := ok_bool (k12 1)
  obtain ⟨n13, rfl⟩ := ok_bool (k13 1)
  obtain ⟨n14, rfl, w14⟩ := ok_int (k14 1)
  obtain ⟨n15, rfl, w15⟩ := ok_int (k15 1)
  obtain ⟨n16, rfl, w16⟩ := ok_int (k16 1)
  obtain ⟨n17, rfl, w17⟩ := ok_int (k17 1)
  obtain ⟨n18, rfl, w18⟩ := ok_int (k18 1)
  obtain ⟨n19, rfl, w19⟩ := ok_int (k19 1)
  obtain ⟨n20, rfl, w20⟩ := ok_int (k20 1)
  obtain ⟨n21, rfl, w21⟩ := ok_int (k21 1)
  obtain ⟨n22, rfl, w22⟩ := ok_int (k22 1)
  obtain ⟨n23, rfl, w23⟩ := ok_int (k23 1)
  obtain ⟨n24, rfl, w24⟩ := ok_str (k24 1)
  obtain ⟨n25, rfl, w25⟩ := ok_int (k25 1)
  obtain ⟨n26, rfl, w26⟩ := ok_int (k26 1)
  refine ⟨⟨⟨⟨n1, n2, n3⟩, n4, n6, n7, n8, n9, ⟨n10, n11, n12, n13, n14⟩, n15, n16, ⟨n17, n18, n19⟩, ⟨n20, n21, n22, n23, n24, n25, n26⟩⟩, sh, st⟩, ?_, ⟨⟨w1, w2, w3, w4, w6, w7, w8, w9, ⟨w10, w11, w14⟩, w15, w16, w17, w18, w19, ⟨w20, w21, w22, w23, w24, w25, w26⟩⟩, hsh, hst⟩⟩
  obtain ⟨l⟩ := cs
  rw [cells_dec] at hsz
  match l, hsz with
  | [c0, c1, c2, c3, c4, c5, c6, c7, c8, c9, c10, c11, c12, c13, c14, c15, c16, c17, c18, c19, c20, c21, c22, c23, c24, c25, c26], _ => simp [Value.cells] at e0 e1 e2 e3 e4 e5 e6 e7 e8 e9 e10 e11 e12 e13 e14 e15 e16 e17 e18 e19 e20 e21 e22 e23 e24 e25 e26; rw [e0, e1, e2, e3, e4, e5, e6, e7, e8, e9, e10, e11, e12, e13, e14, e15, e16, e17, e18, e19, e20, e21, e22, e23, e24, e25, e26]
end
/-- What the size of a decoder leaves. -/
def szD (n : Int) (xs : List Shp) (ls : List Lvl) (t : Nat) : Int := if n < (xs.length : Int) + fldSum xs + ls.length + t then -1 else n - xs.length - fldSum xs - ls.length - t
def FreshDec (w : World) (T TF TL : TypeId) (d : Dc) (xs : List Shp) (ls : List Lvl) (r : Ending) (w' : World) : Prop :=
  ∃ a cap rs sa scap, r = .returned (d.val (.slice a xs.length cap) (.slice sa ls.length scap)) ∧ OwnShs w' w.heap.size T TF (.slice a xs.length cap) xs.length rs xs ∧ w'.ownsRow w.heap.size TL 2 (.slice sa ls.length scap) ls.length (ls.flatMap Lvl.cs) ∧ Below w.heap.size w w'
end Go.Proofs.Ytigmdaiecdoimaa

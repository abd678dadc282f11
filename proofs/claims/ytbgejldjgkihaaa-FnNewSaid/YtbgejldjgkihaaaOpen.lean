/- Opening what came in: schemas, plans. -/
import Derived.Test.YtbgejldjgkihaaaPlan
namespace Go.Proofs.Ytbgejldjgkihaaa
set_option linter.unusedSimpArgs false
set_option linter.unusedVariables false
open Go.ChangeShapes Go.WideShapes Go.ChangeAt Go.RowKit Go.BigFrame

@[reducible] def fldCK : List CK := [CK.int .i64, .int .i64, .bool, .bool, .int .i64]
@[reducible] def shpCK : List CK := [CK.int .i64, .sl fldCK]
structure ShArg where
  a : Option Addr
  cap : Nat
  xs : List Shp
@[reducible] def ShArg.sl (x : ShArg) : Value := .slice x.a x.xs.length x.cap
structure ShArg.ok (x : ShArg) (w : World) : Prop where
  sh : Shs w x.a x.xs
  each : ∀ e ∈ x.xs, ShpOk e
  le : x.xs.length ≤ x.cap
  cap : x.cap ≤ maxLen
def ShROk (w : World) (r : ShR) : Prop := ∃ x : Shp, r.id = x.id ∧ r.n = x.flds.length ∧ Flds w r.a x.flds ∧ ShpOk x
theorem shs_open {w : World} {v : Value} {N : Nat} (h : (CK.sl shpCK).ok w (N + 3) v) : ∃ x : ShArg, v = x.sl ∧ x.ok w := by
  obtain ⟨y, rfl, hy⟩ := sl_open (sz := 2) (α := ShR) (cs := ShR.cs) (OK := ShROk w) (N := N + 2) h rfl (by omega) shR_len (fun l hl hj => by
    match l, hl with
    | [c0, c1], _ =>
      obtain ⟨x0, e0, h0⟩ := hj 0 _ rfl
      obtain ⟨x1, e1, h1⟩ := hj 1 _ rfl
      obtain ⟨n0, rfl, w0⟩ := ok_int (w := w) (h0 : (CK.int .i64).ok w 1 x0)
      simp at e0 e1
      subst e0; subst e1
      obtain ⟨z, rfl, hz⟩ := sl_open (sz := 5) (α := Fld) (cs := Fld.cs) (OK := Fld.ok) (N := N + 1) h1 rfl (by omega) fld_len (fun l hl hj => fld_of_cells (w := w) hl (fun j ck hc => by
        obtain ⟨u, hu, hok⟩ := hj j ck hc
        refine ⟨u, hu, ?_⟩
        match j, hc with
        | 0, hc => simp at hc; subst hc; exact hok
        | 1, hc => simp at hc; subst hc; exact hok
        | 2, hc => simp at hc; subst hc; exact hok
        | 3, hc => simp at hc; subst hc; exact hok
        | 4, hc => simp at hc; subst hc; exact hok
        | j + 5, hc => simp at hc))
      exact ⟨⟨n0, z.a, z.xs.length, z.cap⟩, rfl, ⟨n0, z.xs⟩, rfl, rfl, hz.sl, ⟨w0, Nat.le_trans hz.le hz.cap, hz.each⟩⟩)
  obtain ⟨a, cap, rs⟩ := y
  obtain ⟨xs, hl, hx⟩ := list_of (α := Shp) (p := fun i x => ∃ r, rs[i]? = some r ∧ r.id = x.id ∧ r.n = x.flds.length ∧ Flds w r.a x.flds ∧ ShpOk x) rs.length (fun i hi => by
    obtain ⟨x, h1⟩ := hy.each rs[i] (List.getElem_mem hi)
    exact ⟨x, rs[i], List.getElem?_eq_getElem hi, h1⟩)
  refine ⟨⟨a, cap, xs⟩, by simp [SlArg.val, ShArg.sl, hl], ⟨?_, ?_, by have := hy.le; simp only at this ⊢; omega, hy.cap⟩⟩
  · intro k x hk
    obtain ⟨r, hr, h1, h2, h3, _⟩ := hx k x hk
    obtain ⟨b, off, ha, hlt, hc⟩ := hy.sl k r hr
    have c0 := hc 0 _ rfl
    have c1 := hc 1 _ rfl
    rw [h1] at c0
    rw [h2] at c1
    exact ⟨b, off, r.a, r.cap, ha, hlt, c0, c1, h3⟩
  · intro x hxm
    obtain ⟨k, hk, rfl⟩ := List.getElem_of_mem hxm
    obtain ⟨r, _, _, _, _, h⟩ := hx k _ (List.getElem?_eq_getElem hk)
    exact h
section
variable {H : Type} {enc : TypeId × Value → H} {W : World} {base : Nat} {sp : Nat → Bool} {v : Value} {d : DataW H} {ps : List MemPlace}
end
end Go.Proofs.Ytbgejldjgkihaaa

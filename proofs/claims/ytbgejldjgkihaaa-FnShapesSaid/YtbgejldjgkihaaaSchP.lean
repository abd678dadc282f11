/- Valid schemas: each shape, each field is found where it stands (plain). -/
import Derived.Test.YtbgejldjgkihaaaSchW
namespace Go.Proofs.Ytbgejldjgkihaaa
set_option linter.unusedSimpArgs false
set_option linter.unusedVariables false
open Go.ChangeShapes Go.WideShapes Go.ChangeAt Go.RowKit Go.BigFrame

theorem shpsOk_lt {m : Int} : ∀ {xs : List Shp} {b : Int}, shpsOk m b xs = true → ∀ x ∈ xs, b < x.id
  | [], b, h, x, hx => by cases hx
  | y :: ys, b, h, x, hx => by
    rw [shpsOk, Bool.and_eq_true, Bool.and_eq_true] at h
    obtain ⟨h1, h2, h3⟩ := h
    have hb : b < y.id := by simp [shpHead] at h1; omega
    rcases List.mem_cons.1 hx with rfl | hx
    · exact hb
    · have := shpsOk_lt h3 x hx; omega
theorem shpsOk_at {m : Int} : ∀ {xs : List Shp} {b : Int} {i k : Nat} {x : Shp}, shpsOk m b xs = true → xs[i]? = some x → shAt x.id k xs = (k + i : Nat) ∧ fldsOk m 0 x.flds = true
  | [], b, i, k, x, h, hx => by simp at hx
  | y :: ys, b, 0, k, x, h, hx => by
    rw [shpsOk, Bool.and_eq_true, Bool.and_eq_true] at h
    simp at hx; subst hx
    rw [shAt, if_pos rfl]
    exact ⟨by simp, h.2.1⟩
  | y :: ys, b, i + 1, k, x, h, hx => by
    rw [shpsOk, Bool.and_eq_true, Bool.and_eq_true] at h
    obtain ⟨h1, h2, h3⟩ := h
    simp at hx
    have hlt := shpsOk_lt h3 x (List.mem_of_getElem? hx)
    obtain ⟨e1, e2⟩ := shpsOk_at (k := k + 1) h3 hx
    rw [shAt, if_neg (by omega), e1]
    exact ⟨by congr 1; omega, e2⟩
theorem fldsOk_lt {m : Int} : ∀ {fs : List Fld} {b : Int}, fldsOk m b fs = true → ∀ f ∈ fs, b < f.number
  | [], b, h, x, hx => by cases hx
  | y :: ys, b, h, x, hx => by
    rw [fldsOk, Bool.and_eq_true, Bool.and_eq_true] at h
    obtain ⟨⟨h1, h2⟩, h3⟩ := h
    have hb := of_decide_eq_true h2
    rcases List.mem_cons.1 hx with rfl | hx
    · exact hb
    · have := fldsOk_lt h3 x hx; omega
theorem fldsOk_at {m : Int} : ∀ {fs : List Fld} {b : Int} {k : Nat} {f : Fld}, fldsOk m b fs = true → fs[k]? = some f → fAt f.number fs = (f, true) ∧ fldOk m f = true
  | [], b, k, f, h, hx => by simp at hx
  | y :: ys, b, 0, f, h, hx => by
    rw [fldsOk, Bool.and_eq_true, Bool.and_eq_true] at h
    simp at hx; subst hx
    rw [fAt, if_pos rfl]
    exact ⟨rfl, h.1.1⟩
  | y :: ys, b, k + 1, f, h, hx => by
    rw [fldsOk, Bool.and_eq_true, Bool.and_eq_true] at h
    obtain ⟨⟨h1, h2⟩, h3⟩ := h
    simp at hx
    have hlt := fldsOk_lt h3 f (List.mem_of_getElem? hx)
    obtain ⟨e1, e2⟩ := fldsOk_at h3 hx
    rw [fAt, if_neg (by omega), e1]
    exact ⟨rfl, e2⟩
theorem schOk_shAt {xs : List Shp} {i : Nat} {x : Shp} (h : schOk xs = true) (hx : xs[i]? = some x) : shAt x.id 0 xs = (i : Nat) := by
  rw [schOk, Bool.and_eq_true] at h
  have := (shpsOk_at (k := 0) h.2 hx).1
  rw [this]; congr 1; omega
theorem schOk_fieldAt {xs : List Shp} {i k : Nat} {x : Shp} {f : Fld} (h : schOk xs = true) (hx : xs[i]? = some x) (hf : x.flds[k]? = some f) : fieldAt xs i f.number = (f, true) := by
  rw [schOk, Bool.and_eq_true] at h
  have h1 := (shpsOk_at (k := 0) h.2 hx).2
  have hi := (List.getElem?_eq_some_iff.1 hx).1
  rw [fieldAt, if_pos (by simp [inB]; omega)]
  simp only [Int.toNat_natCast, hx, Option.map_some, Option.getD_some]
  exact (fldsOk_at h1 hf).1
end Go.Proofs.Ytbgejldjgkihaaa

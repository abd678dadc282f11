/- Descriptions that are drawn: what is right with them (plain). -/
import Derived.Test.YtbgejldjgkihaaaRwC
namespace Go.Proofs.Ytbgejldjgkihaaa
set_option linter.unusedSimpArgs false
set_option linter.unusedVariables false

def hasI (ids : List Int) (i : Int) : Bool := ids.any fun j => j == i
theorem hasId_map (xs : List Shp) (i : Int) : hasId xs i = hasI (xs.map Shp.id) i := by
  simp only [hasId, hasI, List.any_map]; rfl
/-- A field of a drawn description. -/
structure FG (ids : List Int) (f : Fld) : Prop where
  num : numOk f.number = true
  kind : inB f.kind 1 8 = true
  pack : packOk f = true
  ref : if f.kind = 8 then hasI ids f.msg = true else f.msg = 0
def Dist (fs : List Fld) : Prop := ∀ (k : Nat) (f : Fld), fs[k]? = some f → hasNum (fs.take k) f.number = false
theorem Dist.nil : Dist [] := fun k f h => by simp at h
theorem Dist.snoc {fs : List Fld} {f : Fld} (h : Dist fs) (hf : hasNum fs f.number = false) : Dist (fs ++ [f]) := by
  intro k g hg
  rcases Nat.lt_trichotomy k fs.length with hk | hk | hk
  · rw [List.getElem?_append_left hk] at hg
    rw [List.take_append_of_le_length (by omega)]
    exact h k g hg
  · subst hk
    rw [List.getElem?_append_right (Nat.le_refl _)] at hg
    simp at hg; subst hg
    rw [List.take_left]
    exact hf
  · rw [List.getElem?_eq_none (by simp; omega)] at hg; simp at hg
/-- A description under way: message i has k tries behind it. -/
structure RawGood (ids : List Int) (i k : Nat) (xs : List Shp) : Prop where
  ids_ : xs.map Shp.id = ids
  len : ∀ (j : Nat) (x : Shp), xs[j]? = some x → x.flds.length ≤ if j < i then 5 else if j = i then k else 0
  good : ∀ x ∈ xs, Dist x.flds ∧ ∀ f ∈ x.flds, FG ids f
theorem RawGood.next {ids : List Int} {i k : Nat} {xs : List Shp} (h : RawGood ids i k xs) : RawGood ids i (k + 1) xs :=
  ⟨h.ids_, fun j x hx => by have := h.len j x hx; split at this <;> (try split at this) <;> (try split) <;> (try split) <;> omega, h.good⟩
theorem RawGood.turn {ids : List Int} {i k : Nat} {xs : List Shp} (h : RawGood ids i k xs) (hk : k ≤ 5) : RawGood ids (i + 1) 0 xs :=
  ⟨h.ids_, fun j x hx => by have := h.len j x hx; split at this <;> (try split at this) <;> (try split) <;> (try split) <;> omega, h.good⟩
theorem RawGood.put {ids : List Int} {i k : Nat} {xs : List Shp} {x : Shp} {f : Fld} (h : RawGood ids i k xs) (hx : xs[i]? = some x) (hf : FG ids f) (hn : hasNum x.flds f.number = false) :
    RawGood ids i (k + 1) (xs.set i ⟨x.id, x.flds ++ [f]⟩) := by
  obtain ⟨hi, hxe⟩ := List.getElem?_eq_some_iff.1 hx
  refine ⟨?_, ?_, ?_⟩
  · rw [List.map_set, ← h.ids_]
    apply List.ext_getElem? 
    intro j
    by_cases hj : i = j
    · subst hj
      rw [List.getElem?_set_self (by simpa using hi), List.getElem?_map, hx]; rfl
    · rw [List.getElem?_set_ne hj]
  · intro j y hy
    by_cases hj : i = j
    · subst hj
      rw [List.getElem?_set_self hi] at hy
      simp at hy; subst hy
      have := h.len i x hx
      simp at this ⊢
      omega
    · rw [List.getElem?_set_ne hj] at hy
      have := h.len j y hy
      split at this <;> (try split at this) <;> (try split) <;> (try split) <;> omega
  · intro y hy
    rcases List.mem_or_eq_of_mem_set hy with h1 | rfl
    · exact h.good y h1
    · obtain ⟨g1, g2⟩ := h.good x (List.mem_of_getElem? hx)
      refine ⟨g1.snoc hn, fun g hg => ?_⟩
      rcases List.mem_append.1 hg with h2 | h2
      · exact g2 g h2
      · simp at h2; subst h2; exact hf
theorem firstF_none {xs : List Shp} {i : Nat} {fs : List Fld} (h : ∀ (k : Nat) (f : Fld), fs[k]? = some f → fldC xs fs k f = 0) : ∀ (k : Nat), firstF xs i fs k (fs.drop k) = none := by
  intro k
  by_cases hk : k < fs.length
  · have hf : fs[k]? = some fs[k] := List.getElem?_eq_getElem hk
    rw [drop_cons hf, firstF, if_pos (h k _ hf)]
    exact firstF_none h (k + 1)
  · rw [List.drop_of_length_le (by omega), firstF]
termination_by k => fs.length - k
theorem firstM_zero {xs : List Shp} (h : ∀ (i : Nat) (x : Shp), xs[i]? = some x → msgC xs i x = 0 ∧ ∀ (k : Nat) (f : Fld), x.flds[k]? = some f → fldC xs x.flds k f = 0) : ∀ (i : Nat), firstM xs i (xs.drop i) = (0, 0, 0) := by
  intro i
  by_cases hi : i < xs.length
  · have hx : xs[i]? = some xs[i] := List.getElem?_eq_getElem hi
    obtain ⟨h1, h2⟩ := h i _ hx
    rw [drop_cons hx, firstM, if_pos h1]
    have := firstF_none (xs := xs) (i := i) h2 0
    rw [List.drop_zero] at this
    rw [this]
    exact firstM_zero h (i + 1)
  · rw [List.drop_of_length_le (by omega), firstM]
termination_by i => xs.length - i
theorem good_first {ids : List Int} {xs : List Shp} {i : Nat} (h : RawGood ids i 0 xs) (hids : ids = [5] ∨ ids = [5, 1] ∨ ids = [5, 1, 99]) : firstV xs = (0, 0, 0) := by
  have hlen : xs.length = ids.length := by rw [← h.ids_]; simp
  rw [firstV, if_neg (by rw [hlen]; rcases hids with rfl | rfl | rfl <;> simp)]
  have := firstM_zero (xs := xs) (fun j x hx => ⟨?_, fun k f hf => ?_⟩) 0
  · simpa using this
  · have hid : ids[j]? = some x.id := by rw [← h.ids_, List.getElem?_map, hx]; rfl
    have hl := h.len j x hx
    have hl5 : x.flds.length ≤ 5 := by split at hl <;> (try split at hl) <;> omega
    have ht : hasId (xs.take j) x.id = false := by
      rw [hasId_map, List.map_take, h.ids_]
      rcases hids with rfl | rfl | rfl <;> (match j, hid with
        | 0, e => simp at e; rw [← e]; rfl
        | 1, e => simp at e; try (rw [← e]; rfl)
        | 2, e => simp at e; try (rw [← e]; rfl)
        | j + 3, e => simp at e)
    have hb : inB x.id 1 99 = true := by
      rcases hids with rfl | rfl | rfl <;> (match j, hid with
        | 0, e => simp at e; rw [← e]; rfl
        | 1, e => simp at e; try (rw [← e]; rfl)
        | 2, e => simp at e; try (rw [← e]; rfl)
        | j + 3, e => simp at e)
    rw [msgC, hb, ht, if_neg (by simp), if_neg (by simp), if_neg (by omega)]
  · obtain ⟨g1, g2⟩ := h.good x (List.mem_of_getElem? hx)
    have hf2 := g2 f (List.mem_of_getElem? hf)
    have hr := hf2.ref
    rw [fldC, hf2.num, g1 k f hf, hf2.kind, hf2.pack, if_neg (by simp), if_neg (by simp), if_neg (by simp), if_neg (by simp)]
    rw [if_neg]
    simp only [refBad]
    by_cases h8 : f.kind = 8
    · rw [if_pos h8] at hr
      simp [h8, hasId_map, h.ids_, hr]
    · rw [if_neg h8] at hr
      simp [h8, hr]
end Go.Proofs.Ytbgejldjgkihaaa

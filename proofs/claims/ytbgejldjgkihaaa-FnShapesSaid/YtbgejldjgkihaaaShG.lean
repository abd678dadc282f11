/- Shapes of the call's own: one of them is changed in its own row, or grows (plain). -/
import Derived.Test.YtbgejldjgkihaaaCmp
namespace Go.Proofs.Ytbgejldjgkihaaa
set_option linter.unusedSimpArgs false
set_option linter.unusedVariables false
open Go.ChangeShapes Go.WideShapes Go.ChangeAt Go.RowKit Go.BigFrame

theorem own_box {w : World} {base n size : Nat} {t : TypeId} {v : Value} {L : List Value} (h : w.ownsRow base t size v n L) {g : Nat} (hg : v.ownBlock = some g) : ∃ cur, w.heap[g]? = some (.cells cur t (0, 0)) := by
  rcases h.2 with ⟨rfl, _⟩ | ⟨g', cap, cur, rfl, _, hh, _⟩
  · simp [Value.ownBlock] at hg
  · simp [Value.ownBlock] at hg; subst hg; exact ⟨cur, hh⟩
theorem own_at {w : World} {base n cap size g : Nat} {t : TypeId} {L : List Value} (h : w.ownsRow base t size (.slice (some ⟨g, 0, none⟩) n cap) n L) {j : Nat} {u : Value} (hj : L[j]? = some u) : w.cell? ⟨g, j, none⟩ = some u := by
  have := h.cells (g := g) rfl j u hj
  by_cases h0 : j = 0
  · subst h0; simpa [Addr.add] using this
  · simpa [Addr.add, h0] using this
theorem shr_setF : ∀ (rs : List ShR) (k : Nat) (r s : ShR), rs[k]? = some r → s.id = r.id → (rs.flatMap ShR.cs).set (k * 2 + 1) (.slice s.a s.n s.cap) = (rs.set k s).flatMap ShR.cs
  | [], k, r, s, h, _ => by simp at h
  | x :: rs, 0, r, s, h, hid => by
    simp at h; subst h
    simp [ShR.cs, hid]
  | x :: rs, k + 1, r, s, h, hid => by
    have ih := shr_setF rs k r s (by simpa using h) hid
    simp only [List.flatMap_cons, List.set_cons_succ, ShR.cs] at ih ⊢
    rw [show (k + 1) * 2 + 1 = (k * 2 + 1) + 1 + 1 by omega]
    simpa using ih
theorem shr_setId : ∀ (rs : List ShR) (k : Nat) (r s : ShR), rs[k]? = some r → s.a = r.a → s.n = r.n → s.cap = r.cap → (rs.flatMap ShR.cs).set (k * 2) (.int .i64 s.id) = (rs.set k s).flatMap ShR.cs
  | [], k, r, s, h, _, _, _ => by simp at h
  | x :: rs, 0, r, s, h, h1, h2, h3 => by
    simp at h; subst h
    simp [ShR.cs, h1, h2, h3]
  | x :: rs, k + 1, r, s, h, h1, h2, h3 => by
    have ih := shr_setId rs k r s (by simpa using h) h1 h2 h3
    simp only [List.flatMap_cons, List.set_cons_succ, ShR.cs] at ih ⊢
    rw [show (k + 1) * 2 = (k * 2) + 1 + 1 by omega]
    simpa using ih
section
variable {w w' : World} {base n q : Nat} {T TF : TypeId} {v : Value} {rs : List ShR} {xs : List Shp} {r : ShR} {x : Shp}
theorem OwnShs.outerNe (h : OwnShs w base T TF v n rs xs) (hne : T ≠ TF) (hr : rs[q]? = some r) (hx : xs[q]? = some x) {b : Nat} (hb : (Value.slice r.a r.n r.cap).ownBlock = some b) : v.ownBlock ≠ some b := by
  intro e
  obtain ⟨c1, h1⟩ := own_box h.outer e
  obtain ⟨c2, h2⟩ := own_box (h.each q r x hr hx).2.2 hb
  rw [h1] at h2
  simp at h2
  exact hne h2.2
theorem OwnShs.outerKept (h : OwnShs w base T TF v n rs xs) (hne : T ≠ TF) (hr : rs[q]? = some r) (hx : xs[q]? = some x) (hg : w.grownBy w' (Value.slice r.a r.n r.cap).ownBlock) : w'.ownsRow base T 2 v n (rs.flatMap ShR.cs) := by
  cases hb : (Value.slice r.a r.n r.cap).ownBlock with
  | none =>
    refine h.outer.kept hg ?_
    rw [hb]
    cases hv : v.ownBlock with
    | none => exact .inl rfl
    | some g => exact .inr (by simp)
  | some b => exact h.outer.kept hg (.inr (by rw [hb]; exact h.outerNe hne hr hx hb))
theorem OwnShs.eachKept (h : OwnShs w base T TF v n rs xs) (hr : rs[q]? = some r) (hg : w.grownBy w' (Value.slice r.a r.n r.cap).ownBlock) {i : Nat} {s : ShR} {y : Shp} (hi : i ≠ q) (hs : rs[i]? = some s) (hy : xs[i]? = some y) : RowIs w' base TF s y := by
  obtain ⟨e1, e2, e3⟩ := h.each i s y hs hy
  refine ⟨e1, e2, e3.kept hg ?_⟩
  cases hb : (Value.slice s.a s.n s.cap).ownBlock with
  | none => exact .inl rfl
  | some b => exact .inr (fun e => h.apart i q s r hs hr hi b hb e.symm)
/-- One row is written in place. -/
theorem OwnShs.row (h : OwnShs w base T TF v n rs xs) (hne : T ≠ TF) (hr : rs[q]? = some r) (hx : xs[q]? = some x) (hg : w.grownBy w' (Value.slice r.a r.n r.cap).ownBlock) {fs : List Fld} (hl : r.n = fs.length) (ho : w'.ownsRow base TF 5 (.slice r.a r.n r.cap) r.n (fs.flatMap Fld.cs)) :
    OwnShs w' base T TF v n rs (xs.set q ⟨x.id, fs⟩) := by
  refine ⟨h.len, by simp [h.lenx], h.outerKept hne hr hx hg, ?_, h.apart⟩
  intro i s y hs hy
  by_cases hi : q = i
  · subst hi
    rw [List.getElem?_set_self (List.getElem?_eq_some_iff.1 hx).1] at hy
    simp at hy; subst hy
    rw [hr] at hs; simp at hs; subst hs
    exact ⟨(h.each q r x hr hx).1, hl, ho⟩
  · rw [List.getElem?_set_ne hi] at hy
    exact h.eachKept hr hg (Ne.symm hi) hs hy
theorem OwnShs.growAt {g cap : Nat} (h : OwnShs w base T TF (.slice (some ⟨g, 0, none⟩) n cap) n rs xs) (hne : T ≠ TF) (hr : rs[q]? = some r) (hx : xs[q]? = some x) (hg : w.grownBy w' (Value.slice r.a r.n r.cap).ownBlock) {a' : Option Addr} {m' cap' : Nat} {fs : List Fld}
    (hl : m' = fs.length) (ho : w'.ownsRow base TF 5 (.slice a' m' cap') m' (fs.flatMap Fld.cs)) (hat : ∀ b, (Value.slice a' m' cap').ownBlock = some b → (Value.slice r.a r.n r.cap).ownBlock = some b ∨ w.heap.size ≤ b) :
    OwnShs (w'.setCell ⟨g, q * 2 + 1, none⟩ (.slice a' m' cap')) base T TF (.slice (some ⟨g, 0, none⟩) n cap) n (rs.set q ⟨r.id, a', m', cap'⟩) (xs.set q ⟨x.id, fs⟩) := by
  have hout := h.outerKept hne hr hx hg
  have hst := hout.stored (q * 2 + 1) (.slice a' m' cap')
  have hgl := (h.outer.lt g rfl).2
  have far : ∀ {s : ShR} {y : Shp}, RowIs w' base TF s y → RowIs (w'.setCell ⟨g, q * 2 + 1, none⟩ (.slice a' m' cap')) base TF s y := by
    intro s y ⟨e1, e2, e3⟩
    refine ⟨e1, e2, e3.kept hst.2 (.inr ?_)⟩
    intro e
    obtain ⟨c1, h1⟩ := own_box hout (g := g) rfl
    obtain ⟨c2, h2⟩ := own_box e3 e
    rw [h1] at h2
    simp at h2
    exact hne h2.2
  have hq := (List.getElem?_eq_some_iff.1 hr).1
  refine ⟨by simp [h.len], by simp [h.lenx], ?_, ?_, ?_⟩
  · have := hst.1
    rw [shr_setF rs q r ⟨r.id, a', m', cap'⟩ hr rfl] at this
    exact this
  · intro i s y hs hy
    by_cases hi : q = i
    · subst hi
      rw [List.getElem?_set_self hq] at hs
      rw [List.getElem?_set_self (List.getElem?_eq_some_iff.1 hx).1] at hy
      simp at hs hy; subst hs; subst hy
      exact far ⟨(h.each q r x hr hx).1, hl, ho⟩
    · rw [List.getElem?_set_ne hi] at hs hy
      exact far (h.eachKept hr hg (Ne.symm hi) hs hy)
  · have key : ∀ {j : Nat} {t : ShR} {y : Shp}, j ≠ q → rs[j]? = some t → xs[j]? = some y → ∀ b, (Value.slice a' m' cap').ownBlock = some b → (Value.slice t.a t.n t.cap).ownBlock ≠ some b := by
      intro j t y hj ht hy b hb hb'
      rcases hat b hb with h1 | h1
      · exact h.apart j q t r ht hr hj b hb' h1
      · have := ((h.each j t y ht hy).2.2.lt b hb').2
        omega
    have some_ : ∀ {j : Nat} {t : ShR}, rs[j]? = some t → ∃ y, xs[j]? = some y := by
      intro j t ht
      have := (List.getElem?_eq_some_iff.1 ht).1
      rw [h.len, ← h.lenx] at this
      exact ⟨xs[j], List.getElem?_eq_getElem this⟩
    intro i j s t hs ht hij b hb hb'
    by_cases hi : q = i
    · subst hi
      rw [List.getElem?_set_self hq] at hs
      rw [List.getElem?_set_ne hij] at ht
      simp at hs; subst hs
      obtain ⟨y, hy⟩ := some_ ht
      exact key (Ne.symm hij) ht hy b hb hb'
    · rw [List.getElem?_set_ne hi] at hs
      by_cases hj : q = j
      · subst hj
        rw [List.getElem?_set_self hq] at ht
        simp at ht; subst ht
        obtain ⟨y, hy⟩ := some_ hs
        exact key hij hs hy b hb' hb
      · rw [List.getElem?_set_ne hj] at ht
        exact h.apart i j s t hs ht hij b hb hb'
theorem OwnShs.setId {g cap : Nat} (h : OwnShs w base T TF (.slice (some ⟨g, 0, none⟩) n cap) n rs xs) (hne : T ≠ TF) (hr : rs[q]? = some r) (hx : xs[q]? = some x) (i : Int) :
    OwnShs (w.setCell ⟨g, q * 2, none⟩ (.int .i64 i)) base T TF (.slice (some ⟨g, 0, none⟩) n cap) n (rs.set q ⟨i, r.a, r.n, r.cap⟩) (xs.set q ⟨i, x.flds⟩) := by
  have hst := h.outer.stored (q * 2) (.int .i64 i)
  have far : ∀ {s : ShR} {y : Shp}, RowIs w base TF s y → RowIs (w.setCell ⟨g, q * 2, none⟩ (.int .i64 i)) base TF s y := by
    intro s y ⟨e1, e2, e3⟩
    refine ⟨e1, e2, e3.kept hst.2 (.inr ?_)⟩
    intro e
    obtain ⟨c1, h1⟩ := own_box h.outer (g := g) rfl
    obtain ⟨c2, h2⟩ := own_box e3 e
    rw [h1] at h2
    simp at h2
    exact hne h2.2
  have hq := (List.getElem?_eq_some_iff.1 hr).1
  refine ⟨by simp [h.len], by simp [h.lenx], ?_, ?_, ?_⟩
  · have := hst.1
    rw [shr_setId rs q r ⟨i, r.a, r.n, r.cap⟩ hr rfl rfl rfl] at this
    exact this
  · intro j s y hs hy
    by_cases hj : q = j
    · subst hj
      rw [List.getElem?_set_self hq] at hs
      rw [List.getElem?_set_self (List.getElem?_eq_some_iff.1 hx).1] at hy
      simp at hs hy; subst hs; subst hy
      obtain ⟨-, e2, e3⟩ := h.each q r x hr hx
      exact far ⟨rfl, e2, e3⟩
    · rw [List.getElem?_set_ne hj] at hs hy
      exact far (h.each j s y hs hy)
  · have same : ∀ {j : Nat} {t : ShR}, (rs.set q ⟨i, r.a, r.n, r.cap⟩)[j]? = some t → ∃ t0, rs[j]? = some t0 ∧ t0.a = t.a ∧ t0.n = t.n ∧ t0.cap = t.cap := by
      intro j t ht
      by_cases hj : q = j
      · subst hj
        rw [List.getElem?_set_self hq] at ht
        simp at ht; subst ht
        exact ⟨r, hr, rfl, rfl, rfl⟩
      · rw [List.getElem?_set_ne hj] at ht
        exact ⟨t, ht, rfl, rfl, rfl⟩
    intro j k s t hs ht hjk b hb hb'
    obtain ⟨s0, hs0, e1, e2, e3⟩ := same hs
    obtain ⟨t0, ht0, f1, f2, f3⟩ := same ht
    exact h.apart j k s0 t0 hs0 ht0 hjk b (by rw [e1, e2, e3]; exact hb) (by rw [f1, f2, f3]; exact hb')
end
end Go.Proofs.Ytbgejldjgkihaaa

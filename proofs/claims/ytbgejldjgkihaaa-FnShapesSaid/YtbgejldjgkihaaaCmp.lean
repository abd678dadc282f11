/- A description compiled: the reference. Shapes stored at an index; the rank of an id. -/
import Derived.Test.YtbgejldjgkihaaaPutF
namespace Go.Proofs.Ytbgejldjgkihaaa
set_option linter.unusedSimpArgs false
set_option linter.unusedVariables false
open Go.ChangeShapes Go.WideShapes Go.ChangeAt Go.RowKit Go.BigFrame

theorem setRow_set2 : ∀ (rs : List ShR) (k : Nat) (r : ShR), k < rs.length → setRow (rs.flatMap ShR.cs) (k * 2) r.cs = (rs.set k r).flatMap ShR.cs
  | [], k, r, h => by simp at h
  | s :: rs, 0, r, h => by simp [setRow, ShR.cs]
  | s :: rs, k + 1, r, h => by
    have ih := setRow_set2 rs k r (by simpa using h)
    simp only [setRow, ShR.cs, List.flatMap_cons, List.set_cons_succ] at ih ⊢
    rw [show (k + 1) * 2 = k * 2 + 2 by omega]
    simpa using ih
/-- A shape is stored at an index of a row of the call's own. -/
theorem OwnShs.storeAt {w : World} {base g n cap k : Nat} {T TF : TypeId} {rs : List ShR} {xs : List Shp} (h : OwnShs w base T TF (.slice (some ⟨g, 0, none⟩) n cap) n rs xs) (hne : T ≠ TF) (hk : k < n)
    {r : ShR} {x : Shp} (hr : RowIs w base TF r x) (hap : ∀ (i : Nat) (s : ShR), i ≠ k → rs[i]? = some s → ∀ b, (Value.slice s.a s.n s.cap).ownBlock = some b → (Value.slice r.a r.n r.cap).ownBlock ≠ some b) :
    OwnShs ((w.setCell ⟨g, k * 2, none⟩ (.int .i64 r.id)).setCell ⟨g, k * 2 + 1, none⟩ (.slice r.a r.n r.cap)) base T TF (.slice (some ⟨g, 0, none⟩) n cap) n (rs.set k r) (xs.set k x) := by
  have hst := ShR.store h.outer k r
  have far : ∀ {s : ShR} {y : Shp}, RowIs w base TF s y → RowIs ((w.setCell ⟨g, k * 2, none⟩ (.int .i64 r.id)).setCell ⟨g, k * 2 + 1, none⟩ (.slice r.a r.n r.cap)) base TF s y := by
    intro s y hsy
    obtain ⟨e1, e2, e3⟩ := hsy
    refine ⟨e1, e2, ?_⟩
    have hne' : (Value.slice s.a s.n s.cap).ownBlock ≠ some g := by
      intro hg
      rcases e3.2 with ⟨e4, _⟩ | ⟨g1, c1, cur1, e4, _, hh1, _⟩
      · rw [e4] at hg; simp [Value.ownBlock] at hg
      · rw [e4] at hg
        simp [Value.ownBlock] at hg
        subst hg
        rcases h.outer.2 with ⟨e5, _⟩ | ⟨g2, c2, cur2, e5, _, hh2, _⟩
        · simp at e5
        · simp only [Value.slice.injEq, Option.some.injEq, Addr.mk.injEq] at e5
          obtain ⟨⟨rfl, _, _⟩, _, _⟩ := e5
          rw [hh1] at hh2
          simp at hh2
          exact hne hh2.2.symm
    have k1 := e3.kept (h.outer.stored (k * 2) (.int .i64 r.id)).2 (.inr hne')
    exact k1.kept ((h.outer.stored (k * 2) (.int .i64 r.id)).1.stored (k * 2 + 1) (.slice r.a r.n r.cap)).2 (.inr hne')
  refine ⟨by simp [h.len], by simp [h.lenx], ?_, ?_, ?_⟩
  · rw [← setRow_set2 rs k r (by rw [h.len]; exact hk)]; exact hst
  · intro i s y hs hy
    by_cases hi : k = i
    · subst hi
      rw [List.getElem?_set_self (by rw [h.len]; exact hk)] at hs
      rw [List.getElem?_set_self (by rw [h.lenx]; exact hk)] at hy
      simp at hs hy; subst hs; subst hy
      exact far hr
    · rw [List.getElem?_set_ne hi] at hs hy
      exact far (h.each i s y hs hy)
  · intro i j s t hs ht hij b hb hb'
    by_cases hi : k = i
    · subst hi
      rw [List.getElem?_set_self (by rw [h.len]; exact hk)] at hs
      rw [List.getElem?_set_ne hij] at ht
      simp at hs; subst hs
      exact hap j t (Ne.symm hij) ht b hb' hb
    · rw [List.getElem?_set_ne hi] at hs
      by_cases hj : k = j
      · subst hj
        rw [List.getElem?_set_self (by rw [h.len]; exact hk)] at ht
        simp at ht; subst ht
        exact hap i s (Ne.symm hi) hs b hb hb'
      · rw [List.getElem?_set_ne hj] at ht
        exact h.apart i j s t hs ht hij b hb hb'
/-- Rows of zeros. -/
theorem OwnShs.zeros {w : World} {base n : Nat} {T TF : TypeId} {v : Value} (h : w.ownsRow base T 2 v n ((List.replicate n (⟨0, none, 0, 0⟩ : ShR)).flatMap ShR.cs)) :
    OwnShs w base T TF v n (List.replicate n ⟨0, none, 0, 0⟩) (List.replicate n ⟨0, []⟩) := by
  refine ⟨by simp, by simp, h, ?_, ?_⟩
  · intro k r x hr hx
    obtain ⟨_, rfl⟩ := List.getElem?_eq_some_iff.1 hr
    obtain ⟨_, rfl⟩ := List.getElem?_eq_some_iff.1 hx
    simp only [List.getElem_replicate]
    exact ⟨rfl, rfl, World.ownsRow_nil _ _ _ _⟩
  · intro i j r s hr hs hij g hg
    obtain ⟨_, rfl⟩ := List.getElem?_eq_some_iff.1 hr
    simp [Value.ownBlock] at hg
/-- What a field of the description is in the schema. -/
def cfld (xs : List Shp) (f : Fld) : Fld := ⟨f.number, f.kind, f.rep, f.packed, if f.kind = 8 then (rankS xs f.msg : Nat) else -1⟩
def cflds (xs : List Shp) : List Fld → List Fld → List Fld
  | l, [] => l
  | l, f :: fs => cflds xs (putF l (cfld xs f)) fs
theorem cflds_len (xs : List Shp) : ∀ (fs l : List Fld), (cflds xs l fs).length = l.length + fs.length
  | [], l => rfl
  | f :: fs, l => by rw [cflds, cflds_len xs fs, putF_len]; simp; omega
def cgo (xs : List Shp) : List Shp → List Shp → List Shp
  | ys, [] => ys
  | ys, x :: rest => cgo xs (ys.set (rankS xs x.id) ⟨x.id, cflds xs [] x.flds⟩) rest
/-- The schema of a description. -/
def compS (xs : List Shp) : List Shp := cgo xs (List.replicate xs.length ⟨0, []⟩) xs
theorem cgo_len (xs : List Shp) : ∀ (rest ys : List Shp), (cgo xs ys rest).length = ys.length
  | [], ys => rfl
  | x :: rest, ys => by rw [cgo, cgo_len xs rest]; simp
theorem compS_len (xs : List Shp) : (compS xs).length = xs.length := by rw [compS, cgo_len]; simp
theorem filter_lt {α : Type} {p : α → Bool} : ∀ {xs : List α} {x : α}, x ∈ xs → p x = false → (xs.filter p).length < xs.length
  | y :: ys, x, h, hp => by
    rcases List.mem_cons.1 h with rfl | h'
    · rw [List.filter_cons_of_neg (by simp [hp])]
      exact Nat.lt_succ_of_le (List.length_filter_le _ _)
    · have := filter_lt h' hp
      by_cases hy : p y = true
      · rw [List.filter_cons_of_pos hy]; simp only [List.length_cons]; omega
      · rw [List.filter_cons_of_neg (by simpa using hy)]; simp only [List.length_cons]; omega
theorem rank_lt {xs : List Shp} {x : Shp} (h : x ∈ xs) : rankS xs x.id < xs.length := filter_lt h (by simp)
theorem c_step {xs : List Shp} {fs l : List Fld} {f : Fld} {k : Nat} {R : List Fld} (h : cflds xs l (fs.drop k) = R) (hf : fs[k]? = some f) : cflds xs (putF l (cfld xs f)) (fs.drop (k + 1)) = R := by
  rw [drop_cons hf] at h; exact h
theorem c_end {xs : List Shp} {fs l : List Fld} {k : Nat} {R : List Fld} (h : cflds xs l (fs.drop k) = R) (hk : fs.length ≤ k) : l = R := by
  rw [List.drop_of_length_le hk] at h; exact h
theorem g_step {xs ys zs : List Shp} {x : Shp} {k : Nat} {R : List Shp} (h : cgo xs ys (zs.drop k) = R) (hx : zs[k]? = some x) : cgo xs (ys.set (rankS xs x.id) ⟨x.id, cflds xs [] x.flds⟩) (zs.drop (k + 1)) = R := by
  rw [drop_cons hx] at h; exact h
theorem g_end {xs ys zs : List Shp} {k : Nat} {R : List Shp} (h : cgo xs ys (zs.drop k) = R) (hk : zs.length ≤ k) : ys = R := by
  rw [List.drop_of_length_le hk] at h; exact h
theorem own_capC {w : World} {base n cap size : Nat} {t : TypeId} {a : Option Addr} {L : List Value} (h : w.ownsRow base t size (.slice a n cap) n L) : n ≤ cap := by
  rcases h.2 with ⟨e, h0⟩ | ⟨g, c, cur, e, _, _, hc, _⟩
  · simp only [Value.slice.injEq] at e; omega
  · simp only [Value.slice.injEq] at e; omega
set_option maxHeartbeats 1000000 in
theorem l8Put_own {B cap n : Nat} {a : Option Addr} {fs : List Fld} (f : Fld) (w : World) (h : w.ownsRow B 47 5 (.slice a n cap) n (fs.flatMap Fld.cs)) (hn : n ≤ 1000) :
    Calls Try.prog 92 #[.slice a n cap, f.val] w fun r w' => ∃ a' cap', r = .returned (.slice a' (n + 1) cap') ∧ w'.ownsRow w.heap.size 47 5 (.slice a' (n + 1) cap') (n + 1) ((putF fs f).flatMap Fld.cs) ∧ Below w.heap.size w w' := by
  have hl : fs.length = n := by have := h.1; rw [flatMap_len fld_len] at this; omega
  have hs := flds_of_own h hl
  have hc := own_capC h
  rcases h.2 with ⟨e, rfl⟩ | ⟨g, c, cur, e, -⟩
  · simp only [Value.slice.injEq] at e
    obtain ⟨rfl, -, rfl⟩ := e
    have e0 : fs = [] := List.eq_nil_of_length_eq_zero hl
    subst e0
    refine (l8Put_nil f w).mono ?_
    rintro r w1 ⟨a', cap', rfl, ho, hb⟩
    exact ⟨a', cap', rfl, by simpa [putF] using ho, hb⟩
  · simp only [Value.slice.injEq] at e
    obtain ⟨rfl, -, rfl⟩ := e
    exact l8Put_any g cap n fs f w hs hl hn hc
end Go.Proofs.Ytbgejldjgkihaaa

/- Texts that FnFieldText leans on, part 2. (Put together by wip/tools/bundle.py.) -/
import Derived.Maps.AppendAt
import Derived.Laws.AppendOwnNone
import Derived.Deep.AppendLies
import Derived.Laws.Tables
import Derived.Lib.Split
import Derived.Lib.Join
import Derived.Test.YtbpilecgnfnndaaDoorFnFT1
namespace Go.Proofs.YtbpilecgnfnndaaDoor
set_option linter.unusedSimpArgs false
set_option linter.unusedVariables false
open Go.ChangeShapes Go.WideShapes Go.ChangeAt Go.RowKit Go.BigFrame
structure Chg (lo hi : Nat) (w w' : World) : Prop where
  os : w'.os = w.os
  tape : w'.tape = w.tape
  output : w'.output = w.output
  size : w.heap.size ≤ w'.heap.size
  block : ∀ k, k < w.heap.size → (k < lo ∨ hi ≤ k) → w'.heap[k]? = w.heap[k]?
theorem Chg.refl (lo hi : Nat) (w : World) : Chg lo hi w w := ⟨rfl, rfl, rfl, Nat.le_refl _, fun _ _ _ => rfl⟩
theorem Chg.trans {lo hi : Nat} {a b c : World} (h : Chg lo hi a b) (k : Chg lo hi b c) : Chg lo hi a c :=
  ⟨k.os.trans h.os, k.tape.trans h.tape, k.output.trans h.output, Nat.le_trans h.size k.size, fun i hi' ho => (k.block i (Nat.lt_of_lt_of_le hi' h.size) ho).trans (h.block i hi' ho)⟩
theorem Chg.of_below {lo hi : Nat} {w w' : World} (h : Below w.heap.size w w') : Chg lo hi w w' := ⟨h.os, h.tape, h.output, h.size, fun k hk _ => h.block k hk⟩
theorem Chg.below {lo hi : Nat} {w w' : World} (h : Chg lo hi w w') (hl : lo ≤ w.heap.size) : Below lo w w' := ⟨h.os, h.tape, h.output, h.size, fun k hk => h.block k (by omega) (.inl hk)⟩
theorem Chg.setCell {lo hi b o : Nat} {w : World} (h1 : lo ≤ b) (h2 : b < hi) (u : Value) : Chg lo hi w (w.setCell ⟨b, o, none⟩ u) :=
  ⟨rfl, rfl, rfl, by simp [World.setCell], fun k _ hk => Below.heap_setCell w ⟨b, o, none⟩ u k (by simp only; omega)⟩
structure OwnR (w : World) (lo hi : Nat) (a : Option Addr) (n : Nat) (L : List Value) : Prop where
  len : L.length = n
  own : n = 0 ∨ ∃ g, a = some ⟨g, 0, none⟩ ∧ lo ≤ g ∧ g < hi ∧ g < w.heap.size ∧ (∀ (j : Nat) (u : Value), L[j]? = some u → w.cell? ⟨g, j, none⟩ = some u) ∧ (∀ j : Nat, w.frozen? ⟨g, j, none⟩ = false)
theorem OwnR.of_owns {w : World} {base n cap : Nat} {t : TypeId} {a : Option Addr} {L : List Value} (h : w.ownsRow base t 1 (.slice a n cap) n L) : OwnR w base w.heap.size a n L := by
  have hlen : L.length = n := by have := h.1; omega
  refine ⟨hlen, ?_⟩
  have hl := h.lt
  have hc : ∀ g, (Value.slice a n cap).ownBlock = some g → _ := fun g hg => World.ownsRow.cells h hg
  rcases h.2 with ⟨e, h0⟩ | ⟨g, cap', cur, e, hb, hh, _⟩
  · exact .inl h0
  · simp only [Value.slice.injEq] at e
    obtain ⟨rfl, _, rfl⟩ := e
    have h1 := hl g rfl
    exact .inr ⟨g, rfl, h1.1, h1.2, h1.2, fun j u hu => by have := hc g rfl j u hu; rwa [Addr.add_lit, Nat.zero_add] at this, h.frozenAt⟩
theorem OwnR.chg {w w' : World} {lo hi lo' hi' n : Nat} {a : Option Addr} {L : List Value} (h : OwnR w lo hi a n L) (hc : Chg lo' hi' w w') (hd : hi ≤ lo' ∨ hi' ≤ lo) : OwnR w' lo hi a n L := by
  refine ⟨h.len, ?_⟩
  rcases h.own with h0 | ⟨g, ha, h1, h2, h3, h4, h5⟩
  · exact .inl h0
  · have hb := hc.block g h3 (by omega)
    exact .inr ⟨g, ha, h1, h2, Nat.lt_of_lt_of_le h3 hc.size, fun j u hu => (World.cell?_of_block (a := ⟨g, j, none⟩) hb).trans (h4 j u hu), fun j => (World.frozen?_of_block (a := ⟨g, j, none⟩) hb).trans (h5 j)⟩
theorem OwnR.keep {w w' : World} {lo hi n : Nat} {a : Option Addr} {L : List Value} (h : OwnR w lo hi a n L) (hb : Below w.heap.size w w') : OwnR w' lo hi a n L :=
  h.chg (Chg.of_below (lo := hi) (hi := hi) hb) (.inl (Nat.le_refl _))
theorem OwnR.store {w : World} {lo hi n g j : Nat} {L : List Value} (h : OwnR w lo hi (some ⟨g, 0, none⟩) n L) (hj : j < n) (u : Value) : OwnR (w.setCell ⟨g, j, none⟩ u) lo hi (some ⟨g, 0, none⟩) n (L.set j u) := by
  refine ⟨by rw [List.length_set, h.len], ?_⟩
  rcases h.own with h0 | ⟨g', ha, h1, h2, h3, h4, h5⟩
  · omega
  · simp only [Option.some.injEq, Addr.mk.injEq, and_true] at ha
    subst ha
    refine .inr ⟨g, rfl, h1, h2, by simpa [World.setCell] using h3, fun i v hv => ?_, fun i => by rw [World.frozen?_setCell]; exact h5 i⟩
    rw [List.getElem?_set] at hv
    by_cases hij : j = i
    · subst hij
      rw [if_pos rfl, if_pos (by rw [h.len]; exact hj)] at hv
      simp only [Option.some.injEq] at hv
      subst hv
      exact World.cell?_setCell_same _ _ _ (h4 j L[j]! (by rw [List.getElem?_eq_getElem (by rw [h.len]; exact hj)]; simp [h.len, hj]))
    · rw [if_neg hij] at hv
      rw [World.cell?_setCell_other _ _ _ _ (by simp [hij])]
      exact h4 i v hv
theorem OwnR.sl {α : Type} {cs : α → List Value} {w : World} {lo hi n : Nat} {a : Option Addr} {xs : List α} (hcs : ∀ x, (cs x).length = 1) (h : OwnR w lo hi a n (xs.flatMap cs)) : Sl 1 cs w a xs := by
  intro k e he
  have hk : k < xs.length := by
    rcases Nat.lt_or_ge k xs.length with h' | h'
    · exact h'
    · rw [List.getElem?_eq_none h'] at he; simp at he
  rcases h.own with h0 | ⟨g, ha, h1, h2, h3, h4, h5⟩
  · have := h.len; rw [flatMap_len hcs] at this; omega
  · refine ⟨g, 0, ha, h3, fun j u hu => ?_⟩
    have hj : j = 0 := by
      rcases Nat.lt_or_ge j 1 with h' | h'
      · omega
      · rw [List.getElem?_eq_none (by rw [hcs]; exact h')] at hu; simp at hu
    subst hj
    have := h4 (k * 1 + 0) u (by rw [flatMap_at hcs xs k 0 e he (by omega)]; exact hu)
    simpa using this
theorem OwnR.slK {α : Type} {cs : α → List Value} {sz : Nat} {w : World} {lo hi n : Nat} {a : Option Addr} {xs : List α} (hsz : 0 < sz) (hcs : ∀ x, (cs x).length = sz) (h : OwnR w lo hi a (n * sz) (xs.flatMap cs)) : Sl sz cs w a xs := by
  intro k e he
  have hk : k < xs.length := by
    rcases Nat.lt_or_ge k xs.length with h' | h'
    · exact h'
    · rw [List.getElem?_eq_none h'] at he; simp at he
  have hlen := h.len
  rw [flatMap_len hcs] at hlen
  rcases h.own with h0 | ⟨g, ha, h1, h2, h3, h4, h5⟩
  · have : 0 < xs.length * sz := Nat.mul_pos (by omega) hsz
    omega
  · refine ⟨g, 0, ha, h3, fun j u hu => ?_⟩
    have hj : j < sz := by
      rcases Nat.lt_or_ge j sz with h' | h'
      · exact h'
      · rw [List.getElem?_eq_none (by rw [hcs]; exact h')] at hu; simp at hu
    have := h4 (k * sz + j) u (by rw [flatMap_at hcs xs k j e he hj]; exact hu)
    simpa using this
theorem Chg.widen {lo hi g e : Nat} {w w' : World} (h : Chg g e w w') (h1 : lo ≤ g) (h2 : e ≤ hi) : Chg lo hi w w' :=
  ⟨h.os, h.tape, h.output, h.size, fun k hk ho => h.block k hk (by omega)⟩
theorem OwnR.widen {w : World} {lo hi g e n : Nat} {a : Option Addr} {L : List Value} (h : OwnR w g e a n L) (h1 : lo ≤ g) (h2 : e ≤ hi) : OwnR w lo hi a n L := by
  refine ⟨h.len, ?_⟩
  rcases h.own with h0 | ⟨b, ha, k1, k2, k3, k4, k5⟩
  · exact .inl h0
  · exact .inr ⟨b, ha, by omega, by omega, k3, k4, k5⟩
theorem OwnR.chg1 {w w' : World} {lo hi g e n : Nat} {a : Option Addr} {L : List Value} (h : OwnR w lo hi a n L) (hc : Chg g e w w') (hd : ∀ b, a = some ⟨b, 0, none⟩ → n ≠ 0 → b < g ∨ e ≤ b) : OwnR w' lo hi a n L := by
  refine ⟨h.len, ?_⟩
  by_cases hn : n = 0
  · exact .inl hn
  rcases h.own with h0 | ⟨b, ha, h1, h2, h3, h4, h5⟩
  · exact .inl h0
  · have hb := hc.block b h3 (hd b ha hn)
    exact .inr ⟨b, ha, h1, h2, Nat.lt_of_lt_of_le h3 hc.size, fun j u hu => (World.cell?_of_block (a := ⟨b, j, none⟩) hb).trans (h4 j u hu), fun j => (World.frozen?_of_block (a := ⟨b, j, none⟩) hb).trans (h5 j)⟩
structure OwnSh (w : World) (lo hi : Nat) (a : Option Addr) (n : Nat) (rs : List ShR) (xs : List Shp) : Prop where
  le : lo ≤ hi
  len : rs.length = n
  lenx : xs.length = n
  outer : OwnR w lo hi a (n * 2) (rs.flatMap ShR.cs)
  each : ∀ (k : Nat) (r : ShR) (x : Shp), rs[k]? = some r → xs[k]? = some x → r.id = x.id ∧ r.n = x.flds.length ∧ OwnR w lo hi r.a (r.n * 5) (x.flds.flatMap Fld.cs)
  apart : ∀ (i j : Nat) (r s : ShR) (g : Nat), rs[i]? = some r → rs[j]? = some s → i ≠ j → r.n ≠ 0 → s.n ≠ 0 → r.a = some ⟨g, 0, none⟩ → s.a ≠ some ⟨g, 0, none⟩
  off : ∀ (i : Nat) (r : ShR) (g : Nat), rs[i]? = some r → r.n ≠ 0 → a = some ⟨g, 0, none⟩ → r.a ≠ some ⟨g, 0, none⟩
def ShBlk (a : Option Addr) (n : Nat) (rs : List ShR) (b : Nat) : Prop := n ≠ 0 ∧ a = some ⟨b, 0, none⟩ ∨ ∃ (i : Nat) (r : ShR), rs[i]? = some r ∧ r.n ≠ 0 ∧ r.a = some ⟨b, 0, none⟩
section
variable {w w' : World} {lo hi n : Nat} {a : Option Addr} {rs : List ShR} {xs : List Shp}
theorem OwnSh.at (h : OwnSh w lo hi a n rs xs) {k : Nat} (hk : k < n) : ∃ r x, rs[k]? = some r ∧ xs[k]? = some x :=
  ⟨_, _, List.getElem?_eq_getElem (by rw [h.len]; exact hk), List.getElem?_eq_getElem (by rw [h.lenx]; exact hk)⟩
theorem OwnSh.shs (h : OwnSh w lo hi a n rs xs) : Shs w a xs := by
  intro k x hx
  have hk : k < n := by
    rcases Nat.lt_or_ge k xs.length with h' | h'
    · rw [← h.lenx]; exact h'
    · rw [List.getElem?_eq_none h'] at hx; simp at hx
  obtain ⟨r, x', hr, hx'⟩ := h.at hk
  rw [hx] at hx'; simp at hx'; subst hx'
  obtain ⟨e1, e2, e3⟩ := h.each k r x hr hx
  obtain ⟨b, off, ha, hlt, hc⟩ := OwnR.slK (by omega) shR_len h.outer k r hr
  have c0 := hc 0 _ rfl
  have c1 := hc 1 _ rfl
  rw [e1] at c0
  rw [e2] at c1
  exact ⟨b, off, r.a, r.cap, ha, hlt, c0, c1, by rw [e2] at e3; exact OwnR.slK (by omega) fld_len e3⟩
theorem OwnSh.chgB (h : OwnSh w lo hi a n rs xs) {g e : Nat} (hc : Chg g e w w') (hd : ∀ b, ShBlk a n rs b → b < g ∨ e ≤ b) : OwnSh w' lo hi a n rs xs where
  le := h.le
  len := h.len
  lenx := h.lenx
  outer := h.outer.chg1 hc fun b hb hn => hd b (.inl ⟨by omega, hb⟩)
  each k r x hr hx := ⟨(h.each k r x hr hx).1, (h.each k r x hr hx).2.1, (h.each k r x hr hx).2.2.chg1 hc fun b hb hn => hd b (.inr ⟨k, r, hr, by omega, hb⟩)⟩
  apart := h.apart
  off := h.off
theorem OwnSh.blk (h : OwnSh w lo hi a n rs xs) {b : Nat} (hb : ShBlk a n rs b) : lo ≤ b ∧ b < hi := by
  rcases hb with ⟨hn, ha⟩ | ⟨i, r, hr, hn, ha⟩
  · rcases h.outer.own with h0 | ⟨g, hg, h1, h2, _⟩
    · omega
    · rw [hg] at ha; simp at ha; subst ha; exact ⟨h1, h2⟩
  · have hi' : i < n := by
      rcases Nat.lt_or_ge i rs.length with h' | h'
      · rw [← h.len]; exact h'
      · rw [List.getElem?_eq_none h'] at hr; simp at hr
    obtain ⟨x, hx⟩ : ∃ x, xs[i]? = some x := ⟨_, List.getElem?_eq_getElem (by rw [h.lenx]; exact hi')⟩
    rcases (h.each i r x hr hx).2.2.own with h0 | ⟨g, hg, h1, h2, _⟩
    · omega
    · rw [hg] at ha; simp at ha; subst ha; exact ⟨h1, h2⟩
theorem OwnSh.chg (h : OwnSh w lo hi a n rs xs) {lo' hi' : Nat} (hc : Chg lo' hi' w w') (hd : hi ≤ lo' ∨ hi' ≤ lo) : OwnSh w' lo hi a n rs xs :=
  h.chgB hc fun b hb => by have := h.blk hb; omega
theorem OwnSh.keep (h : OwnSh w lo hi a n rs xs) (hb : Below w.heap.size w w') : OwnSh w' lo hi a n rs xs :=
  h.chg (Chg.of_below (lo := hi) (hi := hi) hb) (.inl (Nat.le_refl _))
end
theorem shr_set : ∀ (rs : List ShR) (k : Nat) (r : ShR) (q : Int), rs[k]? = some r → (rs.flatMap ShR.cs).set (k * 2) (.int .i64 q) = (rs.set k ⟨q, r.a, r.n, r.cap⟩).flatMap ShR.cs
  | [], k, r, q, h => by simp at h
  | s :: rs, 0, r, q, h => by simp at h; subst h; simp [List.flatMap_cons]
  | s :: rs, k + 1, r, q, h => by
    have ih := shr_set rs k r q (by simpa using h)
    rw [show (k + 1) * 2 = k * 2 + 1 + 1 by omega]
    simp only [List.flatMap_cons, List.cons_append, List.nil_append, List.set_cons_succ, ih]
theorem OwnSh.put {w w2 : World} {lo hi g n k g1 e1 : Nat} {rs : List ShR} {xs : List Shp} {r : ShR} {x : Shp} {q : Int} {ys : List Fld} (h : OwnSh w lo hi (some ⟨g, 0, none⟩) n rs xs) (hk : k < n) (hr : rs[k]? = some r) (hx : xs[k]? = some x)
    (ho : OwnR w2 g1 e1 r.a (r.n * 5) (ys.flatMap Fld.cs)) (hy : ys.length = r.n) (hc : Chg g1 e1 (w.setCell ⟨g, k * 2, none⟩ (.int .i64 q)) w2) (h1 : lo ≤ g1) (h2 : e1 ≤ hi) (hp : r.n = 0 ∧ e1 = g1 ∨ r.n ≠ 0 ∧ e1 = g1 + 1 ∧ r.a = some ⟨g1, 0, none⟩) :
    OwnSh w2 lo hi (some ⟨g, 0, none⟩) n (rs.set k ⟨q, r.a, r.n, r.cap⟩) (xs.set k ⟨q, ys⟩) := by
  have hset : Chg g (g + 1) w (w.setCell ⟨g, k * 2, none⟩ (.int .i64 q)) := Chg.setCell (Nat.le_refl _) (by omega) _
  have hrs : ∀ (i : Nat) (s : ShR), (rs.set k ⟨q, r.a, r.n, r.cap⟩)[i]? = some s → ∃ s', rs[i]? = some s' ∧ s.a = s'.a ∧ s.n = s'.n ∧ (i = k → s = ⟨q, r.a, r.n, r.cap⟩) ∧ (i ≠ k → s = s') := by
    intro i s hs
    rw [List.getElem?_set] at hs
    by_cases hik : k = i
    · subst hik
      rw [if_pos rfl, if_pos (by rw [h.len]; exact hk)] at hs
      simp at hs; subst hs
      exact ⟨r, hr, rfl, rfl, fun _ => rfl, fun hh => absurd rfl hh⟩
    · rw [if_neg hik] at hs
      exact ⟨s, hs, rfl, rfl, fun hh => absurd hh.symm hik, fun _ => rfl⟩
  refine ⟨h.le, by rw [List.length_set, h.len], by rw [List.length_set, h.lenx], ?_, ?_, ?_, ?_⟩
  · rw [← shr_set rs k r q hr]
    refine (h.outer.store (j := k * 2) (by omega) _).chg1 hc fun b hb hn => ?_
    simp at hb; subst hb
    rcases hp with ⟨_, hp⟩ | ⟨hp0, hp1, hp2⟩
    · omega
    · have := h.off k r g hr hp0 rfl
      by_cases hgg : g = g1
      · subst hgg; exact absurd hp2 this
      · omega
  · intro i s y hs hyy
    obtain ⟨s', hs', e1', e2', e3', e4'⟩ := hrs i s hs
    rw [List.getElem?_set] at hyy
    by_cases hik : k = i
    · subst hik
      rw [if_pos rfl, if_pos (by rw [h.lenx]; exact hk)] at hyy
      simp at hyy; subst hyy
      have e := e3' rfl
      subst e
      exact ⟨rfl, hy.symm, ho.widen h1 h2⟩
    · rw [if_neg hik] at hyy
      have e := e4' (fun hh => hik hh.symm)
      subst e
      obtain ⟨f1, f2, f3⟩ := h.each i s y hs' hyy
      refine ⟨f1, f2, (f3.chg1 hset fun b hb hn => ?_).chg1 hc fun b hb hn => ?_⟩
      · have := h.off i s b hs' (by omega)
        by_cases hbg : b = g
        · subst hbg; exact absurd hb (this rfl)
        · omega
      · rcases hp with ⟨_, hp⟩ | ⟨hp0, hp1, hp2⟩
        · omega
        · by_cases hbg : b = g1
          · subst hbg; exact absurd hp2 (h.apart i k s r b hs' hr (fun hh => hik hh.symm) (by omega) hp0 hb)
          · omega
  · intro i j s t b hs ht hij hn hn' ha
    obtain ⟨s', hs', f1, f2, _⟩ := hrs i s hs
    obtain ⟨t', ht', f3, f4, _⟩ := hrs j t ht
    rw [f3]
    exact h.apart i j s' t' b hs' ht' hij (by rw [← f2]; exact hn) (by rw [← f4]; exact hn') (by rw [← f1]; exact ha)
  · intro i s b hs hn ha
    obtain ⟨s', hs', f1, f2, _⟩ := hrs i s hs
    rw [f1]
    exact h.off i s' b hs' (by rw [← f2]; exact hn) ha
def kS (k : Nat) (xs : List Shp) (i : Nat) : Nat := k + i + 5 * fldSum (xs.take i)
structure ChgB (P : Nat → Prop) (w w' : World) : Prop where
  os : w'.os = w.os
  tape : w'.tape = w.tape
  output : w'.output = w.output
  size : w.heap.size ≤ w'.heap.size
  block : ∀ k, k < w.heap.size → ¬ P k → w'.heap[k]? = w.heap[k]?
theorem ChgB.refl (P : Nat → Prop) (w : World) : ChgB P w w := ⟨rfl, rfl, rfl, Nat.le_refl _, fun _ _ _ => rfl⟩
theorem ChgB.trans {P : Nat → Prop} {a b c : World} (h : ChgB P a b) (k : ChgB P b c) : ChgB P a c :=
  ⟨k.os.trans h.os, k.tape.trans h.tape, k.output.trans h.output, Nat.le_trans h.size k.size, fun i hi' ho => (k.block i (Nat.lt_of_lt_of_le hi' h.size) ho).trans (h.block i hi' ho)⟩
theorem OwnR.chgB {P : Nat → Prop} {w w' : World} {lo hi n : Nat} {a : Option Addr} {L : List Value} (h : OwnR w lo hi a n L) (hc : ChgB P w w') (hd : ∀ b, a = some ⟨b, 0, none⟩ → n ≠ 0 → ¬ P b) : OwnR w' lo hi a n L := by
  refine ⟨h.len, ?_⟩
  by_cases hn : n = 0
  · exact .inl hn
  rcases h.own with h0 | ⟨b, ha, h1, h2, h3, h4, h5⟩
  · exact .inl h0
  · have hb := hc.block b h3 (hd b ha hn)
    exact .inr ⟨b, ha, h1, h2, Nat.lt_of_lt_of_le h3 hc.size, fun j u hu => (World.cell?_of_block (a := ⟨b, j, none⟩) hb).trans (h4 j u hu), fun j => (World.frozen?_of_block (a := ⟨b, j, none⟩) hb).trans (h5 j)⟩
def SameR (rs rs' : List ShR) : Prop := ∀ (i : Nat) (r' : ShR), rs'[i]? = some r' → ∃ r, rs[i]? = some r ∧ r'.a = r.a ∧ r'.n = r.n
theorem SameR.refl (rs : List ShR) : SameR rs rs := fun i r h => ⟨r, h, rfl, rfl⟩
theorem SameR.blk {rs rs' : List ShR} (h : SameR rs rs') {a : Option Addr} {n b : Nat} (hb : ShBlk a n rs' b) : ShBlk a n rs b := by
  rcases hb with hb | ⟨i, r, hr, hn, ha⟩
  · exact .inl hb
  · obtain ⟨r0, h0, h1, h2⟩ := h i r hr
    exact .inr ⟨i, r0, h0, by omega, by rw [← h1]; exact ha⟩
theorem SameR.set {rs rs' : List ShR} (h : SameR rs rs') {k : Nat} {r : ShR} (hr : rs'[k]? = some r) (q : Int) : SameR rs (rs'.set k ⟨q, r.a, r.n, r.cap⟩) := by
  intro i s hs
  rw [List.getElem?_set] at hs
  by_cases hik : k = i
  · subst hik
    rw [if_pos rfl] at hs
    split at hs
    · simp at hs; subst hs
      obtain ⟨r0, h0, h1, h2⟩ := h k r hr
      exact ⟨r0, h0, h1, h2⟩
    · simp at hs
  · rw [if_neg hik] at hs
    exact h i s hs
theorem own_sh {w : World} {base n size : Nat} {t : TypeId} {v : Value} {L : List Value} (h : w.ownsRow base t size v n L) : ∃ a cap, v = .slice a n cap ∧ w.ownsRow base t size (.slice a n cap) n L := by
  rcases h.2 with ⟨rfl, h0⟩ | ⟨g, cap', cur, rfl, _⟩
  · subst h0; exact ⟨none, 0, rfl, h⟩
  · exact ⟨_, _, rfl, h⟩
def ShsC (w : World) (a : Option Addr) (xs : List Shp) : Prop :=
  ∀ (k : Nat) (x : Shp), xs[k]? = some x → ∃ b off a' cap', a = some ⟨b, off, none⟩ ∧ b < w.heap.size ∧ w.cell? ⟨b, off + k * 2, none⟩ = some (.int .i64 x.id) ∧ w.cell? ⟨b, off + k * 2 + 1, none⟩ = some (.slice a' x.flds.length cap') ∧ Flds w a' x.flds ∧ (a' = none → cap' = 0)
theorem ShsC.shs {w : World} {a : Option Addr} {xs : List Shp} (h : ShsC w a xs) : Shs w a xs := fun k x hx => by
  obtain ⟨b, off, a', cap', h1, h2, h3, h4, h5, _⟩ := h k x hx
  exact ⟨b, off, a', cap', h1, h2, h3, h4, h5⟩
theorem ShsC.keep {w w' : World} {a : Option Addr} {xs : List Shp} (h : ShsC w a xs) (hb : Below w.heap.size w w') : ShsC w' a xs := fun k x hx => by
  obtain ⟨b, off, a', cap', h1, h2, h3, h4, h5, h6⟩ := h k x hx
  exact ⟨b, off, a', cap', h1, Nat.lt_of_lt_of_le h2 hb.size, (hb.cell (p := ⟨b, _, none⟩) h2).trans h3, (hb.cell (p := ⟨b, _, none⟩) h2).trans h4, Sl.keep h5 hb, h6⟩
theorem OwnShs.push {w w' : World} {base n : Nat} {T TF : TypeId} {v v' : Value} {rs : List ShR} {xs : List Shp} {r : ShR} {x : Shp} (h : OwnShs w base T TF v n rs xs) (hne : T ≠ TF) (hr : RowIs w base TF r x)
    (hf : ∀ (i : Nat) (s : ShR), rs[i]? = some s → ∀ g, (Value.slice s.a s.n s.cap).ownBlock = some g → (Value.slice r.a r.n r.cap).ownBlock ≠ some g)
    (ho : w'.ownsRow base T 2 v' (n + 1) (rs.flatMap ShR.cs ++ r.cs)) (hg : w.grownBy w' v.ownBlock) : OwnShs w' base T TF v' (n + 1) (rs ++ [r]) (xs ++ [x]) := by
  have keep : ∀ (s : ShR) (y : Shp), RowIs w base TF s y → RowIs w' base TF s y := by
    intro s y hs
    refine ⟨hs.1, hs.2.1, hs.2.2.kept hg ?_⟩
    cases hb : (Value.slice s.a s.n s.cap).ownBlock with
    | none => exact .inl rfl
    | some g =>
      refine .inr (fun hv => ?_)
      obtain ⟨a0, cap0, rfl, ho0⟩ := own_sh h.outer
      rcases hs.2.2.2 with ⟨e, _⟩ | ⟨g', c', cur, e, _, hh, _⟩
      · rw [e] at hb; simp [Value.ownBlock] at hb
      · rcases ho0.2 with ⟨e2, _⟩ | ⟨g2, c2, cur2, e2, _, hh2, _⟩
        · rw [e2] at hv; simp [Value.ownBlock] at hv
        · rw [e] at hb; rw [e2] at hv
          simp only [Value.ownBlock, Option.some.injEq] at hb hv
          subst hb
          rw [← hv, hh] at hh2
          simp only [Option.some.injEq, Obj.cells.injEq] at hh2
          exact hne hh2.2.1.symm
  refine ⟨by simp [h.len], by simp [h.lenx], by rw [List.flatMap_append]; simpa using ho, ?_, h.apart.snoc hf⟩
  intro k s y hs hy
  rcases Nat.lt_trichotomy k n with hk | hk | hk
  · rw [List.getElem?_append_left (by rw [h.len]; exact hk)] at hs
    rw [List.getElem?_append_left (by rw [h.lenx]; exact hk)] at hy
    exact keep s y (h.each k s y hs hy)
  · rw [List.getElem?_append_right (by rw [h.len]; omega), h.len, hk] at hs
    rw [List.getElem?_append_right (by rw [h.lenx]; omega), h.lenx, hk] at hy
    simp at hs hy; subst hs; subst hy
    exact keep _ _ hr
  · rw [List.getElem?_eq_none (by simp [h.len]; omega)] at hs; simp at hs
theorem OwnShs.nil (w : World) (base : Nat) (T TF : TypeId) : OwnShs w base T TF (.slice none 0 0) 0 [] [] :=
  ⟨rfl, rfl, World.ownsRow_nil _ _ _ _, fun k r x h => by simp at h, Apart.nil⟩
section
variable {P : Program} {ops : Array Oper} {Q : Exit → Act → World → Prop} {md : Region.Mode} {S : World → Prop} {D : Nat → Bool}
def wpTill (P : Program) (md : Region.Mode) (ops : Array Oper) (Q : Exit → Act → World → Prop) (S : World → Prop) (D : Nat → Bool) : Nat → Array Bool → Act → World → Prop
  | 0, listed, a, w => Region.ready md ops listed = [] ∧ Q .normal a w
  | f + 1, listed, a, w => (Region.ready md ops listed = [] → Q .normal a w) ∧
      ∀ i ∈ Region.ready md ops listed, wpOp P ops Q i (fun a' w' => (D i = false → S w') ∧ wpTill P md ops Q S D f (listed.setIfInBounds i true) a' w') a w
theorem wpTill_any : ∀ (f : Nat) (listed : Array Bool) (a : Act) (w : World), wpTill P md ops Q S D f listed a w → wpAny P md ops Q f listed a w
  | 0, _, _, _, h => h
  | f + 1, _, _, _, h => ⟨h.1, fun i hi => wpOp_mono (fun a' w' g => wpTill_any f _ a' w' g.2) (h.2 i hi)⟩
theorem ready_nowait {listed : Array Bool} {i j : Nat} {oj : Oper} (hi : i ∈ Region.ready md ops listed) (hj : j ∈ Region.ready md ops listed) (hoj : ops[j]? = some oj) : ∀ e ∈ oj.after, Region.binds md e = true → e.on ≠ i := by
  intro e he hb heq
  obtain ⟨_, o, ho, hall⟩ := mem_ready.1 hj
  rw [hoj] at ho
  obtain rfl := Option.some.inj ho
  have h1 := hall e he hb
  have h0 := (mem_ready.1 hi).1
  rw [heq] at h1
  rcases Nat.lt_or_ge i listed.size with h' | h'
  · simp [h'] at h0 h1; rw [h0] at h1; cases h1
  · simp [Array.getElem?_eq_none h'] at h1
def waits (md : Region.Mode) (ops : Array Oper) (D : Nat → Bool) (i : Nat) : Bool :=
  (List.range ops.size).all fun j => !D j || (match ops[j]? with | some o => o.after.any fun e => Region.binds md e && e.on == i | none => true)
theorem waits_spec {i j : Nat} {oj : Oper} (h : waits md ops D i = true) (hoj : ops[j]? = some oj) (hD : D j = true) : ∃ e ∈ oj.after, Region.binds md e = true ∧ e.on = i := by
  have hj : j < ops.size := by
    rcases Nat.lt_or_ge j ops.size with h' | h'
    · exact h'
    · rw [Array.getElem?_eq_none h'] at hoj; cases hoj
  have h1 := List.all_eq_true.1 h j (List.mem_range.2 hj)
  rw [hD, hoj] at h1
  simp only [Bool.not_true, Bool.false_or, Array.any_eq_true', Bool.and_eq_true, beq_iff_eq] at h1
  exact h1
theorem wpTill_first {i : Nat} {oi : Oper} {v : Value} (hi : ops[i]? = some oi) (hsel : ∀ (j : Nat) (o : Oper) cs b, ops[j]? = some o → o.op ≠ .select cs b)
    (hQ : ∀ c a w, Q (.panic c) (a.put oi.dst v) w → Q (.panic c) a w) (hw : waits md ops D i = true) :
    ∀ (f : Nat) (listed : Array Bool) (a : Act) (w : World),
      (∀ j oj, ops[j]? = some oj → j ≠ i → listed.getD j true = false → (∀ e ∈ oj.after, Region.binds md e = true → e.on ≠ i) → oi.apart ops oj = true) →
      i ∈ Region.ready md ops listed → YieldsIf P ops S oi v a → S w →
      wpTill P md ops Q S D f (listed.setIfInBounds i true) (a.put oi.dst v) w → wpTill P md ops Q S D (f + 1) listed a w := by
  intro f
  induction f with
  | zero =>
    intro listed a w _ hr hy hS H
    refine ⟨fun h => (by rw [h] at hr; cases hr), fun j hj => ?_⟩
    by_cases hji : j = i
    · subst hji; exact hy.wpOp hi hS ⟨fun _ => hS, H⟩
    · have := ready_mono hj hji
      rw [H.1] at this; cases this
  | succ f ih =>
    intro listed a w hfree hr hy hS H
    refine ⟨fun h => (by rw [h] at hr; cases hr), fun j hj => ?_⟩
    by_cases hji : j = i
    · subst hji; exact hy.wpOp hi hS ⟨fun _ => hS, H⟩
    · have h1 := H.2 j (ready_mono hj hji)
      obtain ⟨hun, oj, hoj, _⟩ := mem_ready.1 hj
      have hno := ready_nowait hr hj hoj
      have hDj : D j = false := by
        cases hd : D j with
        | false => rfl
        | true =>
          obtain ⟨e, he, hb, ho⟩ := waits_spec hw hoj hd
          exact absurd ho (hno e he hb)
      have h2 := wpOp_putIf hoj (hfree j oj hoj hji hun hno) (fun cs b => hsel i oi cs b hi) (fun cs b => hsel j oj cs b hoj) hQ hy h1
      refine wpOp_mono (fun a' w' g => ⟨g.2.1, ih (listed.setIfInBounds j true) a' w' ?_ (ready_mono hr (Ne.symm hji)) g.1 (g.2.1 hDj) ?_⟩) h2
      · intro k ok hk hki hunk hnok
        refine hfree k ok hk hki ?_ hnok
        by_cases hjk : j = k
        · subst hjk; exact hun
        · rw [getD_set_ne true hjk] at hunk; exact hunk
      · rw [Array.setIfInBounds_comm _ _ hji]; exact g.2.2
theorem wpTill_take {i : Nat} {oi : Oper} {v : Value} {f : Nat} {listed : Array Bool} {a : Act} {w : World} (hi : ops[i]? = some oi)
    (hs : Region.noSelect ops = true) (hf : Region.free md ops listed i = true) (hr : (Region.ready md ops listed).contains i = true) (hw : waits md ops D i = true)
    (hQ : ∀ c a w, Q (.panic c) (a.put oi.dst v) w → Q (.panic c) a w) (hy : YieldsIf P ops S oi v a) (hS : S w)
    (h : wpTill P md ops Q S D f (listed.setIfInBounds i true) (a.put oi.dst v) w) : wpTill P md ops Q S D (f + 1) listed a w :=
  wpTill_first hi (Region.noSelect_spec hs) hQ hw f listed a w (Region.free_spec hi hf) (by simpa using hr) hy hS h
theorem wpTill_op {i : Nat} {o : Oper} {f : Nat} {listed : Array Bool} {a : Act} {w : World} (hr : Region.ready md ops listed = [i]) (ho : ops[i]? = some o)
    (h : ∀ K' : Act → World → Prop, Shut (∀ a w, (D i = false → S w) → wpTill P md ops Q S D f (listed.setIfInBounds i true) a w → K' a w) → if Region.wanted o (yielded ops a.tmps) = true then Oper.wp P o a w K' Q else K' (a.put o.dst undef) w) :
    wpTill P md ops Q S D (f + 1) listed a w :=
  ⟨fun h0 => (by rw [hr] at h0; cases h0), fun j hj => by
    rw [hr] at hj
    rcases List.mem_cons.1 hj with rfl | hj
    · exact wpOp_step ho (fun K' hK => h K' (fun a w hS hW => hK a w ⟨hS, hW⟩))
    · cases hj⟩
theorem wpTill_done {listed : Array Bool} {a : Act} {w : World} (hr : Region.ready md ops listed = []) (h : Q .normal a w) : ∀ f, wpTill P md ops Q S D f listed a w
  | 0 => ⟨hr, h⟩
  | _ + 1 => ⟨fun _ => h, by rw [hr]; simp⟩
theorem wp_region_till {id : Nat} {a : Act} {w : World} (S : World → Prop) (D : Nat → Bool) (hm : P.follows .mixedOrders = true)
    (h : wpTill P .any ops Q S D ops.size (Array.replicate ops.size false) a w.drew) : (Code.region id ops true).wp P Q a w :=
  wp_region_any hm (wpTill_any _ _ _ _ h)
theorem step_append_own {o : Oper} {a : Act} {w : World} {K : Act → World → Prop} {E : Prop} (hgd : o.guard = none) (s x : Operand) (t : TypeId)
    (ho : o.op = .call { callee := .builtin .append, args := #[s, x], argTypes := #[t, t] })
    (base : Nat) (e : TypeId) (i : TypeInfo) (z : Value) (size bytes : Nat) (ht : P.underlying t = some (.slice e)) (hi : P.info? e = some i) (hz : i.zero = some z)
    (hsize : i.size = size) (hby : i.bytes = bytes) (hzs : z.cells.size = size) (hsz : 0 < size)
    (v : Value) (n : Nat) (xs : List Value) (hs : a.eval s = v) (hown : w.ownsRow base e size v n xs)
    (ad : Addr) (m c : Nat) (news : List Value) (hx : a.eval x = .slice (some ad) m c) (hl : news.length = m * size) (hnews : ∀ j u, news[j]? = some u → w.cell? (ad.add j) = some u) (h1 : ∀ u ∈ news, u.oneCell' = true)
    (h63 : n + m ≤ maxLen) (hbytes : (n + m) * bytes ≤ 140737488355328) (hbase : base ≤ w.heap.size)
    (h : ∀ v' w', w'.ownsRow base e size v' (n + m) (xs ++ news) → w.grownBy w' v.ownBlock → (v' = .slice none 0 0 ↔ v = .slice none 0 0 ∧ m = 0) → K (a.put o.dst v') w') :
    if Region.wanted o (yielded ops a.tmps) = true then Oper.wp P o a w K Q else E := by
  have hw : Region.wanted o (yielded ops a.tmps) = true := by simp [Region.wanted, hgd]
  rw [if_pos hw]
  exact wp_append_own w s x t ho base e i z size bytes ht hi hz hsize hby hzs hsz v n xs hs hown ad m c news hx hl hnews h1 h63 hbytes hbase fun v' w' h2 h3 h4 => h v' w' h2 h3 h4
end
def Cells (l : List (Addr × Value)) (w : World) : Prop := ∀ q ∈ l, w.cell? q.1 = some q.2
theorem cells_nil (w : World) : Cells [] w ↔ True := by simp [Cells]
theorem cells_cons (q : Addr × Value) (l : List (Addr × Value)) (w : World) : Cells (q :: l) w ↔ w.cell? q.1 = some q.2 ∧ Cells l w := by simp [Cells]
theorem cells_mk {q : Addr} {v : Value} {l : List (Addr × Value)} {w : World} (h : w.cell? q = some v) (h' : Cells l w) : Cells ((q, v) :: l) w := (cells_cons _ _ _).2 ⟨h, h'⟩
theorem cells_no (w : World) : Cells [] w := (cells_nil w).2 trivial
theorem cell_alloc {w : World} {p : Addr} {v : Value} (o : Obj) (h : w.cell? p = some v) : (w.alloc o).cell? p = some v := by rw [World.cell?_alloc_some w p o (by rw [h]; rfl)]; exact h
theorem cell_grown {w w' : World} {p : Addr} {v : Value} {row : Option Nat} (hg : w.grownBy w' row) (h : w.cell? p = some v) (hne : row ≠ some p.block) : w'.cell? p = some v := by
  rw [World.cell?_of_block (a := p) (hg.block p.block (World.block_lt_of_cell? w _ h) (fun e => hne e.symm))]; exact h
theorem Cells.drew {l : List (Addr × Value)} {w : World} (h : Cells l w) : Cells l w.drew := fun q hq => h q hq
theorem Cells.alloc {l : List (Addr × Value)} {w : World} (h : Cells l w) (o : Obj) : Cells l (w.alloc o) := fun q hq => cell_alloc o (h q hq)
theorem Cells.below {l : List (Addr × Value)} {w w' : World} (h : Cells l w) (hb : Below w.heap.size w w') : Cells l w' := fun q hq => (hb.cell (World.block_lt_of_cell? w _ (h q hq))).trans (h q hq)
theorem Cells.grown {l : List (Addr × Value)} {w w' : World} {row : Option Nat} (h : Cells l w) (hg : w.grownBy w' row) (hr : ∀ q ∈ l, row ≠ some q.1.block) : Cells l w' := fun q hq => cell_grown hg (h q hq) (hr q hq)
theorem OwnShs.alloc {w : World} {base n : Nat} {T TF : TypeId} {v : Value} {rs : List ShR} {xs : List Shp} (h : OwnShs w base T TF v n rs xs) (o : Obj) : OwnShs (w.alloc o) base T TF v n rs xs := OwnShs.below h (Below.refl _ _ |>.alloc (Nat.le_refl _) o) (Nat.le_refl _)
theorem RowIs.alloc {w : World} {base : Nat} {TF : TypeId} {r : ShR} {x : Shp} (h : RowIs w base TF r x) (o : Obj) : RowIs (w.alloc o) base TF r x := ⟨h.1, h.2.1, h.2.2.alloc o⟩
theorem OwnShs.drew {w : World} {base n : Nat} {T TF : TypeId} {v : Value} {rs : List ShR} {xs : List Shp} (h : OwnShs w base T TF v n rs xs) : OwnShs w.drew base T TF v n rs xs := OwnShs.below h (Below.refl _ _).drew (Nat.le_refl _)
theorem below_grown {B : Nat} {w0 w w' : World} {row : Option Nat} (hb : Below B w0 w) (hg : w.grownBy w' row) (hr : ∀ g, row = some g → B ≤ g) (hB : B ≤ w.heap.size) : Below B w0 w' :=
  hb.trans ⟨hg.os, hg.tape, hg.output, hg.size, fun k hk => hg.block k (by omega) (fun e => by have := hr k e.symm; omega)⟩
def partsL (c : UInt8) : List UInt8 → List (List UInt8)
  | [] => [[]]
  | b :: r => if b = c then [] :: partsL c r else match partsL c r with
    | [] => [[b]]
    | w :: ws => (b :: w) :: ws
theorem partsL_free {c : UInt8} : ∀ {l : List UInt8}, (∀ b ∈ l, b ≠ c) → partsL c l = [l]
  | [], _ => rfl
  | b :: r, h => by
    rw [partsL, if_neg (h b (List.mem_cons_self ..)), partsL_free fun x hx => h x (List.mem_cons_of_mem _ hx)]
theorem partsL_cut {c : UInt8} : ∀ {a r : List UInt8}, (∀ b ∈ a, b ≠ c) → partsL c (a ++ c :: r) = a :: partsL c r
  | [], r, _ => by simp [partsL]
  | b :: a, r, h => by
    rw [List.cons_append, partsL, if_neg (h b (List.mem_cons_self ..)), partsL_cut fun x hx => h x (List.mem_cons_of_mem _ hx)]
theorem partsL_len (c : UInt8) : ∀ l, (partsL c l).length ≤ l.length + 1
  | [] => by simp [partsL]
  | b :: r => by
    have := partsL_len c r
    unfold partsL
    split
    · simp; omega
    · split
      · simp
      · rename_i w ws h; rw [h] at this; simp at this ⊢; omega
theorem join_cons2 (x y : List UInt8) (r : List (List UInt8)) (c : UInt8) : Lib.join (x :: y :: r) [c] = x ++ c :: Lib.join (y :: r) [c] := by
  rw [Lib.join_cons, Lib.join_cons]
  simp [Lib.joinTail]
theorem partsL_join {c : UInt8} : ∀ {ws : List (List UInt8)}, ws ≠ [] → (∀ w ∈ ws, ∀ b ∈ w, b ≠ c) → partsL c (Lib.join ws [c]) = ws
  | [], h, _ => absurd rfl h
  | [x], _, h => by rw [Lib.join_one]; exact partsL_free (h x (List.mem_cons_self ..))
  | x :: y :: r, _, h => by
    rw [join_cons2, partsL_cut (h x (List.mem_cons_self ..)), partsL_join (by simp) fun w hw => h w (List.mem_cons_of_mem _ hw)]
theorem index_free {c : UInt8} : ∀ {l : List UInt8}, (∀ b ∈ l, b ≠ c) → Lib.index l [c] = -1
  | [], _ => rfl
  | b :: r, h => by
    have hb := h b (List.mem_cons_self ..)
    have ih := index_free fun x hx => h x (List.mem_cons_of_mem _ hx)
    rw [Lib.index, if_neg (by simp [List.isPrefixOf]; exact fun e => hb e.symm), ih]; try rfl
theorem index_cut {c : UInt8} : ∀ {a r : List UInt8}, (∀ b ∈ a, b ≠ c) → Lib.index (a ++ c :: r) [c] = a.length
  | [], r, _ => by simp [Lib.index, List.isPrefixOf]
  | b :: a, r, h => by
    have hb := h b (List.mem_cons_self ..)
    have ih := index_cut (r := r) fun x hx => h x (List.mem_cons_of_mem _ hx)
    rw [List.cons_append, Lib.index, if_neg (by simp [List.isPrefixOf]; exact fun e => hb e.symm), ih, if_neg (by first | (simp; done) | (simp; omega))]
    try simp
theorem splitK_join {c : UInt8} : ∀ {ws : List (List UInt8)} {k : Nat}, ws ≠ [] → ws.length ≤ k + 1 → (∀ w ∈ ws, ∀ b ∈ w, b ≠ c) → Lib.splitK [c] 0 k (Lib.join ws [c]) = ws
  | [], k, h, _, _ => absurd rfl h
  | [x], 0, _, _, h => by rw [Lib.join_one]; rfl
  | [x], k + 1, _, _, h => by
    rw [Lib.join_one, Lib.splitK, index_free (h x (List.mem_cons_self ..)), if_pos (by rfl)]
  | x :: y :: r, 0, _, hl, h => by simp at hl
  | x :: y :: r, k + 1, _, hl, h => by
    have hx := h x (List.mem_cons_self ..)
    rw [join_cons2, Lib.splitK, index_cut hx, if_neg (by first | (simp; done) | (simp; omega))]
    have e1 : (((x.length : Nat) : Int).toNat + 0) = x.length := by simp
    have e2 : (((x.length : Nat) : Int).toNat + [c].length) = x.length + 1 := by simp
    rw [e1, e2, List.take_left, List.drop_append, List.drop_of_length_le (by omega), List.nil_append, show x.length + 1 - x.length = 1 by omega, List.drop_one, List.tail_cons]
    rw [splitK_join (by simp) (by simp at hl ⊢; omega) fun w hw => h w (List.mem_cons_of_mem _ hw)]
@[reducible] def strRowP (L : List (List UInt8)) : List Value := L.map fun l => .string (sB l)
def FreshStrs (w : World) (L : List (List UInt8)) (r : Ending) (w' : World) : Prop :=
  ∃ g cap, r = .returned (.slice (some ⟨g, 0, none⟩) L.length cap) ∧ w'.ownsRow w.heap.size 9 1 (.slice (some ⟨g, 0, none⟩) L.length cap) L.length (strRowP L) ∧ Below w.heap.size w w'
def repW : List UInt8 := [114, 101, 112, 101, 97, 116, 101, 100]
def packW : List UInt8 := [112, 97, 99, 107, 101, 100]
def kf (w : List UInt8) : Nat → Int → Int
  | 0, k0 => k0
  | j + 1, k0 => if w = kindL (j + 1 : Nat) then (j + 1 : Nat) else kf w j k0
def numD (w : List UInt8) : Int := ((numUpto 999999999 w).getD 0 : Nat)
@[reducible] def zeroR : Fld := ⟨0, 0, false, false, 0⟩
@[reducible] def fcs (f : Fld) : Array Value := #[.int .i64 f.number, .int .i64 f.kind, .bool f.rep, .bool f.packed, .int .i64 f.msg]
theorem fbox_set {w : World} {F o : Nat} {f f' : Fld} {T : TypeId} {u : Value} (h : w.heap[F]? = some (.cells (fcs f) T (0, 0))) (e : (fcs f).setIfInBounds o u = fcs f') : (w.setCell ⟨F, o, none⟩ u).heap[F]? = some (.cells (fcs f') T (0, 0)) := by
  apply hset_eq (hset_set h); exact e
theorem fbox_cells {w : World} {F : Nat} {f : Fld} {T : TypeId} (h : w.heap[F]? = some (.cells (fcs f) T (0, 0))) : w.cell? ⟨F, 0, none⟩ = some (.int .i64 f.number) ∧ w.cell? ⟨F, 1, none⟩ = some (.int .i64 f.kind) ∧ w.cell? ⟨F, 2, none⟩ = some (.bool f.rep) ∧ w.cell? ⟨F, 3, none⟩ = some (.bool f.packed) ∧ w.cell? ⟨F, 4, none⟩ = some (.int .i64 f.msg) ∧ ∀ j, w.frozen? ⟨F, j, none⟩ = false :=
  ⟨box_cells h 0, box_cells h 1, box_cells h 2, box_cells h 3, box_cells h 4, box_frozen h⟩
theorem own_cell {w : World} {base n cap g : Nat} {t : TypeId} {L : List (List UInt8)} {j : Nat} {l : List UInt8} (h : w.ownsRow base t 1 (.slice (some ⟨g, 0, none⟩) n cap) n (strRowP L)) (hj : L[j]? = some l) : w.cell? ⟨g, j, none⟩ = some (.string (sB l)) := by
  have := h.cells (g := g) rfl j (.string (sB l)) (by rw [strRowP, List.getElem?_map, hj]; rfl)
  by_cases h0 : j = 0
  · subst h0; simpa [Addr.add] using this
  · simpa [Addr.add, h0] using this
theorem results_cell {fn : Func} {p : Tmp} {ty : TypeId} (h : fn.results = #[.cell p ty]) {tmps : Array Value} {a : Addr} (hp : tmps.getD p undef = .pointer (some a)) {P : Program} {w : World} {v : Value} (hv : (loadVar ty a).run P w = .ok v w) : (results fn tmps).run P w = .ok v w := by
  have hp' : tmps[p]?.getD undef = .pointer (some a) := by simpa using hp
  simp only [results, h]
  simp [Sem.run_bind, Result.andThen, hp', asAddr, hv]
theorem range_of_box {w : World} {b : Nat} {cs : List Value} {t : TypeId} (h : w.heap[b]? = some (.cells cs.toArray t (0, 0))) : w.rangeAt b 0 cs := by
  intro j u hj
  simp [World.cell?, h, hj]
def hasNum (fs : List Fld) (n : Int) : Bool := fs.any fun f => f.number == n
theorem any_hit {α : Type} {p : α → Bool} {xs : List α} {k : Nat} {e : α} (he : xs[k]? = some e) (h : p e = true) : xs.any p = true := List.any_eq_true.2 ⟨e, List.mem_of_getElem? he, h⟩
theorem any_snoc {α : Type} {p : α → Bool} {xs : List α} {k : Nat} {e : α} (he : xs[k]? = some e) : (xs.take (k + 1)).any p = ((xs.take k).any p || p e) := by
  rw [List.take_add_one, he]; simp
set_option maxHeartbeats 2000000 in
theorem l6HasNumber_any (a : Option Addr) (cap n : Nat) (fs : List Fld) (x : Int) (w : World) (h : Flds w a fs) (hl : fs.length = n) (hn : n ≤ 1048576) :
    Calls Tryd.prog 82 #[.slice a n cap, .int .i64 x] w fun r w' => r = .returned (.bool (hasNum fs x)) ∧ Below w.heap.size w w' := by
  have HL := Lib.hid hl; clear hl
  obtain ⟨R, hR⟩ : ∃ R, hasNum fs x = R := ⟨_, rfl⟩
  rw [hR]
  have HR := Lib.hid hR; clear hR
  go_enter Tryd.func82, Tryd.ntmps82
  go_wp2
  go_loop [5] (fun i => ∃ k : Nat, k ≤ n ∧ i = .int .i64 k ∧ Hid ((fs.take k).any (fun f => f.number == x) = false)) (fun i => n - (intOf i).toNat)
  case atStart => exact ⟨0, Nat.zero_le _, rfl, Lib.hid (by simp)⟩
  case round =>
    obtain ⟨k, hk, rfl, HK⟩ := hrel
    by_cases hlt : k < n
    · obtain ⟨f, hf, _⟩ := at_lt (xs := fs) (k := k) (by rw [HL.out]; exact hlt)
      obtain ⟨b, off, rfl, hbl, d0, -⟩ := Flds.at h hf
      have HF := Lib.hid hf; clear hf
      cases hq : (f.number == x)
      · have HK2 := Lib.hid (show (fs.take (k + 1)).any (fun f => f.number == x) = false by rw [any_snoc HF.out, HK.out, hq]; rfl)
        go_wp2
        go_round
        case rel => exact ⟨k + 1, by omega, by go_num, HK2⟩
        case measure => simp [intOf]; omega
      · have HB := Lib.hid (show true = R by rw [← HR.out, hasNum, any_hit HF.out hq])
        go_wp2
        go_ret
        exact ⟨ret_bool HB.out, by ((repeat (first | (with_reducible exact Below.refl _ _) | (with_reducible assumption) | (with_reducible refine Below.alloc ?_ ?_ _) | (with_reducible refine Below.setCell ?_ ?_ _) | (with_reducible refine Below.drew ?_) | (with_reducible refine below_setRow ?_ ?_ _) | (refine Below.trans ?_ (Below.mono (by assumption) ?_)))); all_goals (first | omega | (simp; done) | (simp; omega)))⟩
    · have HB := Lib.hid (show false = R by rw [← HR.out, hasNum]; have := HK.out; rw [List.take_of_length_le (by rw [HL.out]; omega)] at this; exact this.symm)
      go_wp2
      go_ret
      exact ⟨ret_bool HB.out, by ((repeat (first | (with_reducible exact Below.refl _ _) | (with_reducible assumption) | (with_reducible refine Below.alloc ?_ ?_ _) | (with_reducible refine Below.setCell ?_ ?_ _) | (with_reducible refine Below.drew ?_) | (with_reducible refine below_setRow ?_ ?_ _) | (refine Below.trans ?_ (Below.mono (by assumption) ?_)))); all_goals (first | omega | (simp; done) | (simp; omega)))⟩
theorem Shs.at {w : World} {a : Option Addr} {xs : List Shp} (h : Shs w a xs) {k : Nat} {x : Shp} (hx : xs[k]? = some x) :
    ∃ b off a' cap', a = some ⟨b, off, none⟩ ∧ b < w.heap.size ∧ w.cell? ⟨b, off + k * 2, none⟩ = some (.int .i64 x.id) ∧ w.cell? ⟨b, off + k * 2 + 1, none⟩ = some (.slice a' x.flds.length cap') ∧ Flds w a' x.flds := h k x hx
def ShsL (w : World) (a : Option Addr) (xs : List Shp) : Prop :=
  ∀ (k : Nat) (x : Shp), xs[k]? = some x → ∃ b off a' cap', a = some ⟨b, off, none⟩ ∧ b < w.heap.size ∧ w.cell? ⟨b, off + k * 2, none⟩ = some (.int .i64 x.id) ∧ w.cell? ⟨b, off + k * 2 + 1, none⟩ = some (.slice a' x.flds.length cap') ∧ Flds w a' x.flds ∧ x.flds.length ≤ cap'
theorem ShsL.shs {w : World} {a : Option Addr} {xs : List Shp} (h : ShsL w a xs) : Shs w a xs := fun k x hx => by
  obtain ⟨b, off, a', cap', h1, h2, h3, h4, h5, _⟩ := h k x hx
  exact ⟨b, off, a', cap', h1, h2, h3, h4, h5⟩
theorem ShsL.keep {w w' : World} {a : Option Addr} {xs : List Shp} (h : ShsL w a xs) (hb : Below w.heap.size w w') : ShsL w' a xs := fun k x hx => by
  obtain ⟨b, off, a', cap', h1, h2, h3, h4, h5, h6⟩ := h k x hx
  exact ⟨b, off, a', cap', h1, Nat.lt_of_lt_of_le h2 hb.size, (hb.cell (p := ⟨b, _, none⟩) h2).trans h3, (hb.cell (p := ⟨b, _, none⟩) h2).trans h4, Sl.keep h5 hb, h6⟩
theorem own_lecapR {w : World} {base n cap size : Nat} {t : TypeId} {a : Option Addr} {L : List Value} (h : w.ownsRow base t size (.slice a n cap) n L) : n ≤ cap := by
  rcases h.2 with ⟨e, h0⟩ | ⟨g, c, cur, e, _, _, hc, _⟩
  · simp only [Value.slice.injEq] at e; omega
  · simp only [Value.slice.injEq] at e; omega
section
variable {xs : List Shp} {i k : Nat} {x : Shp} {f : Fld} {R : Int × Int × Int} {O : Option (Int × Int × Int)}
end
end Go.Proofs.YtbpilecgnfnndaaDoor
namespace Go.Proofs.YtbpilecgnfnndaaDoor
set_option linter.unusedSimpArgs false
set_option linter.unusedVariables false
open Go.ChangeShapes Go.WideShapes Go.ChangeAt Go.RowKit Go.BigFrame
end Go.Proofs.YtbpilecgnfnndaaDoor
namespace Go.Proofs.YtbpilecgnfnndaaDoor
set_option linter.unusedSimpArgs false
set_option linter.unusedVariables false
def hasI (ids : List Int) (i : Int) : Bool := ids.any fun j => j == i
structure FG (ids : List Int) (f : Fld) : Prop where
  num : numOk f.number = true
  kind : inB f.kind 1 8 = true
  pack : packOk f = true
  ref : if f.kind = 8 then hasI ids f.msg = true else f.msg = 0
def Dist (fs : List Fld) : Prop := ∀ (k : Nat) (f : Fld), fs[k]? = some f → hasNum (fs.take k) f.number = false
theorem Dist.nil : Dist [] := fun k f h => by simp at h
theorem Dist.snoc {fs : List Fld} {f : Fld} (h : Dist fs) (hf : hasNum fs f.number = false) : Dist (fs ++ [f]) := by
  intro k g hg
  rcases Nat.lt_trichotomy k fs.length with hk | hk | hk
  · rw [List.getElem?_append_left hk] at hg
    rw [List.take_append_of_le_length (by omega)]
    exact h k g hg
  · subst hk
    rw [List.getElem?_append_right (Nat.le_refl _)] at hg
    simp at hg; subst hg
    rw [List.take_left]
    exact hf
  · rw [List.getElem?_eq_none (by simp; omega)] at hg; simp at hg
structure RawGood (ids : List Int) (i k : Nat) (xs : List Shp) : Prop where
  ids_ : xs.map Shp.id = ids
  len : ∀ (j : Nat) (x : Shp), xs[j]? = some x → x.flds.length ≤ if j < i then 5 else if j = i then k else 0
  good : ∀ x ∈ xs, Dist x.flds ∧ ∀ f ∈ x.flds, FG ids f
theorem RawGood.next {ids : List Int} {i k : Nat} {xs : List Shp} (h : RawGood ids i k xs) : RawGood ids i (k + 1) xs :=
  ⟨h.ids_, fun j x hx => by have := h.len j x hx; split at this <;> (try split at this) <;> (try split) <;> (try split) <;> omega, h.good⟩
theorem RawGood.turn {ids : List Int} {i k : Nat} {xs : List Shp} (h : RawGood ids i k xs) (hk : k ≤ 5) : RawGood ids (i + 1) 0 xs :=
  ⟨h.ids_, fun j x hx => by have := h.len j x hx; split at this <;> (try split at this) <;> (try split) <;> (try split) <;> omega, h.good⟩
theorem RawGood.put {ids : List Int} {i k : Nat} {xs : List Shp} {x : Shp} {f : Fld} (h : RawGood ids i k xs) (hx : xs[i]? = some x) (hf : FG ids f) (hn : hasNum x.flds f.number = false) :
    RawGood ids i (k + 1) (xs.set i ⟨x.id, x.flds ++ [f]⟩) := by
  obtain ⟨hi, hxe⟩ := List.getElem?_eq_some_iff.1 hx
  refine ⟨?_, ?_, ?_⟩
  · rw [List.map_set, ← h.ids_]
    apply List.ext_getElem? 
    intro j
    by_cases hj : i = j
    · subst hj
      rw [List.getElem?_set_self (by simpa using hi), List.getElem?_map, hx]; rfl
    · rw [List.getElem?_set_ne hj]
  · intro j y hy
    by_cases hj : i = j
    · subst hj
      rw [List.getElem?_set_self hi] at hy
      simp at hy; subst hy
      have := h.len i x hx
      simp at this ⊢
      omega
    · rw [List.getElem?_set_ne hj] at hy
      have := h.len j y hy
      split at this <;> (try split at this) <;> (try split) <;> (try split) <;> omega
  · intro y hy
    rcases List.mem_or_eq_of_mem_set hy with h1 | rfl
    · exact h.good y h1
    · obtain ⟨g1, g2⟩ := h.good x (List.mem_of_getElem? hx)
      refine ⟨g1.snoc hn, fun g hg => ?_⟩
      rcases List.mem_append.1 hg with h2 | h2
      · exact g2 g h2
      · simp at h2; subst h2; exact hf
end Go.Proofs.YtbpilecgnfnndaaDoor
namespace Go.Proofs.YtbpilecgnfnndaaDoor
set_option linter.unusedSimpArgs false
set_option linter.unusedVariables false
open Go.ChangeShapes Go.WideShapes Go.ChangeAt Go.RowKit Go.BigFrame
structure TxtW (w : World) : Prop where
  num : NumW w
  max : ∃ m, w.cell? ⟨0, 0, none⟩ = some (.int .i64 m)
theorem TxtW.keep {w w' : World} (h : TxtW w) (hb : Below w.heap.size w w') : TxtW w' := by
  obtain ⟨m, hm⟩ := h.max
  exact ⟨h.num.keep hb, m, (hb.cell (World.block_lt_of_cell? w _ hm)).trans hm⟩
def splitL (n : Nat) (l : List UInt8) (c : UInt8) : List (List UInt8) := Lib.splitK [c] 0 (min n (l.length + 1) - 1) l
theorem splitK_len (sep : List UInt8) : ∀ (k : Nat) (l : List UInt8), ∀ x ∈ Lib.splitK sep 0 k l, x.length ≤ l.length
  | 0, l, x, hx => by simp [Lib.splitK] at hx; subst hx; exact Nat.le_refl _
  | k + 1, l, x, hx => by
    rw [Lib.splitK] at hx
    split at hx
    · simp at hx; subst hx; exact Nat.le_refl _
    · rcases List.mem_cons.1 hx with rfl | hx
      · rw [List.length_take]; omega
      · have := splitK_len sep k _ x hx
        rw [List.length_drop] at this; omega
theorem splitK_num (sep : List UInt8) : ∀ (k : Nat) (l : List UInt8), (Lib.splitK sep 0 k l).length ≤ k + 1
  | 0, l => by simp [Lib.splitK]
  | k + 1, l => by
    rw [Lib.splitK]
    split
    · simp
    · have := splitK_num sep k (l.drop ((Lib.index l sep).toNat + sep.length)); simp; omega
theorem splitK_ne (sep : List UInt8) : ∀ (k : Nat) (l : List UInt8), Lib.splitK sep 0 k l ≠ []
  | 0, l => by simp [Lib.splitK]
  | k + 1, l => by
    rw [Lib.splitK]
    split <;> simp
theorem implSplit_any (s : ByteArray) (c : UInt8) (n : Nat) (w : World) (hw : TxtW w) (hs : s.size ≤ 1048576) (hn : 1 ≤ n) (hn2 : n ≤ 1000) :
    Calls Tryd.prog 38 #[.string s, .string (sB [c]), .int .i64 n] w (FreshStrs w (splitL n (bL s) c)) := by
  obtain ⟨m, hm⟩ := hw.max
  refine (Tryd.strings_SplitN s (sB [c]) n m w (by omega) hm (by simp [ByteArray.size]) hn (by omega)).mono ?_
  rintro r w' ⟨rfl, rfl⟩
  have hd := Lib.splitB_data (sB [c]) 0 (min n (s.size + 1) - 1) s
  have hL : (Lib.splitB (sB [c]) 0 (min n (s.size + 1) - 1) s).map bL = splitL n (bL s) c := by rw [splitL, bL_len]; exact hd
  have hlen : (Lib.splitB (sB [c]) 0 (min n (s.size + 1) - 1) s).length = (splitL n (bL s) c).length := by rw [← hL, List.length_map]
  have hle := Lib.splitB_length_le (sB [c]) 0 (min n (s.size + 1) - 1) s
  obtain ⟨B, hB⟩ : ∃ B, Lib.splitB (sB [c]) 0 (min n (s.size + 1) - 1) s = B := ⟨_, rfl⟩
  rw [hB] at hL hlen hle ⊢
  have hN : B.length ≤ min n (s.size + 1) := by omega
  refine ⟨w.heap.size, min n (s.size + 1), by rw [hlen], ⟨by simp [strRowP], .inr ⟨w.heap.size, min n (s.size + 1), Lib.cellsOf B (min n (s.size + 1)), rfl, Nat.le_refl _, heap_nth0 w _, by rw [← hlen]; exact hN, by unfold maxLen; omega, by rw [Lib.cellsOf_size hN]; omega, ?_⟩⟩, (Below.refl _ _).alloc (Nat.le_refl _) _⟩
  rw [← hlen, Nat.mul_one]
  show List.take B.length (B.map Value.string ++ List.replicate (min n (s.size + 1) - B.length) (Value.string ByteArray.empty)) = _
  rw [List.take_append_of_le_length (by simp), List.take_of_length_le (by simp), ← hL]
  simp only [strRowP, List.map_map]
  exact List.map_congr_left fun x _ => by rw [Function.comp_apply, sB, ← str_of_bL]
def stepI (f : Fld) (w : List UInt8) : Fld := if w = repW then ⟨f.number, f.kind, true, f.packed, f.msg⟩ else if w = packW then ⟨f.number, f.kind, f.rep, true, f.msg⟩ else ⟨f.number, f.kind, f.rep, f.packed, numD w⟩
def implP (x0 x1 : List UInt8) (ws : List (List UInt8)) : Fld := ws.foldl stepI ⟨numD x0, kf x1 8 0, false, false, 0⟩
def readW (l : List UInt8) : List (List UInt8) → Fld × Bool
  | x0 :: x1 :: ws => if fieldL (implP x0 x1 ws) = l then (implP x0 x1 ws, true) else (zeroR, false)
  | _ => (zeroR, false)
def readI (l : List UInt8) : Fld × Bool := readW l (splitL 6 l 32)
theorem foldl_snocI {ws : List (List UInt8)} {j : Nat} {x : List UInt8} {f0 : Fld} (hx : ws[j]? = some x) : (ws.take (j + 1)).foldl stepI f0 = stepI ((ws.take j).foldl stepI f0) x := by
  rw [List.take_add_one, hx, List.foldl_append]; rfl
set_option maxRecDepth 100000 in
set_option maxHeartbeats 8000000 in
theorem implReadField_any (s : ByteArray) (w : World) (hw : TxtW w) (hs : s.size ≤ 1048576) :
    Calls Tryd.prog 16 #[.string s] w fun r w' => r = .returned (.tuple #[(readI (bL s)).1.val, .bool (readI (bL s)).2]) ∧ Below w.heap.size w w' := by
  obtain ⟨⟨RF, RB⟩, hR⟩ : ∃ R, readI (bL s) = R := ⟨_, rfl⟩
  rw [hR]
  have HR := Lib.hid hR; clear hR
  have HW := Lib.hid hw; clear hw
  obtain ⟨ws, hws⟩ : ∃ ws, splitL 6 (bL s) 32 = ws := ⟨_, rfl⟩
  have hwn : ws ≠ [] := by rw [← hws]; exact splitK_ne _ _ _
  have hwl : ws.length ≤ 6 := by rw [← hws]; have := splitK_num [32] (min 6 ((bL s).length + 1) - 1) (bL s); simp only [splitL]; omega
  have hwx : ∀ x ∈ ws, x.length ≤ 1048576 := by
    rw [← hws]; intro x hx
    have := splitK_len [32] _ (bL s) x hx
    rw [bL_len] at this; omega
  have hRR : (RF, RB) = readW (bL s) ws := by rw [← HR.out, readI, hws]
  have hparts : ∀ W : World, TxtW W → Calls Tryd.prog 38 #[.string s, .string ⟨#[32]⟩, .int .i64 6] W (FreshStrs W ws) := fun W hW => by
    have := implSplit_any s 32 6 W hW hs (by omega) (by omega)
    rw [hws] at this; exact this
  clear hws HR
  obtain ⟨x0, wr0, rfl⟩ : ∃ x0 r, ws = x0 :: r := by
    cases ws with
    | nil => exact absurd rfl hwn
    | cons x r => exact ⟨x, r, rfl⟩
  cases wr0 with
  | nil =>
    simp only [readW, Prod.mk.injEq] at hRR
    obtain ⟨rfl, rfl⟩ := hRR
    go_enter Tryd.func16, Tryd.ntmps16
    go_wp2_with fail
    refine (hparts _ (HW.out.keep (by ((repeat (first | (with_reducible exact Below.refl _ _) | (with_reducible assumption) | (with_reducible refine Below.alloc ?_ ?_ _) | (with_reducible refine Below.setCell ?_ ?_ _) | (with_reducible refine Below.drew ?_) | (with_reducible refine below_setRow ?_ ?_ _) | (refine Below.trans ?_ (Below.mono (by assumption) ?_)))); all_goals (first | omega | (simp; done) | (simp; omega)))))).mono ?_
    rintro r w1 ⟨g, cap, rfl, ho, hb1⟩
    have hz1 := hb1.size
    simp only [World.size_alloc] at hz1
    have hR1 := (hb1.block w.heap.size (by simp)).trans (hset_new (o := .cells (fcs zeroR) 25 (0, 0)) rfl)
    obtain ⟨r0, r1, r2, r3, r4, rz⟩ := fbox_cells hR1
    have hRl := box_lt hR1
    have hT1 : Below w.heap.size w w1 := ((Below.refl _ _).alloc (Nat.le_refl _) _).trans (hb1.mono (by simp))
    clear ho hparts
    go_wp2_with fail
    refine bodyPost_ret (v := .tuple #[zeroR.val, .bool false]) (by simp [results, Tryd.results16, go_sem, zeroR, hRl, r0, r1, r2, r3, r4]) rfl ⟨rfl, ((((hT1.setCell (Nat.le_refl _) _).setCell (Nat.le_refl _) _).setCell (Nat.le_refl _) _).setCell (Nat.le_refl _) _).setCell (Nat.le_refl _) _⟩
  | cons x1 wr1 =>
    rw [readW] at hRR
    have HRR := Lib.hid hRR; clear hRR
    have hx0 := hwx x0 (List.mem_cons_self ..)
    have hwl' : wr1.length ≤ 4 := by simp at hwl; omega
    go_enter Tryd.func16, Tryd.ntmps16
    go_wp2_with fail
    refine (hparts _ (HW.out.keep (by ((repeat (first | (with_reducible exact Below.refl _ _) | (with_reducible assumption) | (with_reducible refine Below.alloc ?_ ?_ _) | (with_reducible refine Below.setCell ?_ ?_ _) | (with_reducible refine Below.drew ?_) | (with_reducible refine below_setRow ?_ ?_ _) | (refine Below.trans ?_ (Below.mono (by assumption) ?_)))); all_goals (first | omega | (simp; done) | (simp; omega)))))).mono ?_
    rintro r w1 ⟨g, cap, rfl, ho, hb1⟩
    have hz1 := hb1.size
    simp only [World.size_alloc] at hz1
    have hgl := (ho.lt g rfl).2
    have hg1 := (ho.lt g rfl).1
    simp only [World.size_alloc] at hg1
    have hcap := own_lecapR ho
    have hRes := (hb1.block w.heap.size (by simp)).trans (hset_new (o := .cells (fcs zeroR) 25 (0, 0)) rfl)
    have HO := Lib.hid ho; have HRes := Lib.hid hRes; clear ho hRes hparts
    have hT1 : Below w.heap.size w w1 := ((Below.refl _ _).alloc (Nat.le_refl _) _).trans (hb1.mono (by simp))
    have q0 := own_cell HO.out (j := 0) (l := x0) rfl
    have hnum : ∀ (x : List UInt8) (W : World), TxtW W → x.length ≤ 1048576 → Calls Tryd.prog 39 #[.string ⟨x.toArray⟩] W fun r w' => r = .returned (.tuple #[.int .i64 (numD x), .bool (numUpto 999999999 x).isSome]) ∧ Below W.heap.size W w' := fun x W hW hx => implNumber_any ⟨x.toArray⟩ W hW.num (by simpa [ByteArray.size] using hx)
    obtain ⟨N0, hN0⟩ : ∃ N0, numD x0 = N0 := ⟨_, rfl⟩
    have hn0 := fun W hW => hnum x0 W hW hx0
    rw [hN0] at hn0
    go_wp2_with fail
    refine (hn0 _ (HW.out.keep hT1)).mono ?_
    rintro r w4 ⟨rfl, hb4⟩
    have hT4 : Below w.heap.size w w4 := hT1.trans (hb4.mono hT1.size)
    have HO4 := Lib.hid (owns_below HO.out hb4 (Nat.le_refl _))
    have HRes4 := Lib.hid ((hb4.block w.heap.size (by omega)).trans HRes.out)
    have hg4 : g < w4.heap.size := Nat.lt_of_lt_of_le hgl hb4.size
    have hz4 := hT4.size
    have hR4l := box_lt HRes4.out
    clear hb4 hn0 q0 HO HRes
    obtain ⟨F, hFe⟩ : ∃ F, w4.heap.size = F := ⟨_, rfl⟩
    have hgF : g < F := by omega
    go_wp2_with fail
    go_loopw [8] (fun kv wi => ∃ k : Nat, k ≤ 8 ∧ kv = .int .i64 (k + 1) ∧ wi.heap[F]? = some (.cells (fcs ⟨N0, kf x1 k 0, false, false, 0⟩) 25 (0, 0)) ∧ Below F w4 wi) (fun kv _ => 9 - (intOf kv).toNat)
    case atStart => exact ⟨0, by omega, rfl, hset_new hFe.symm, (Below.refl F _).alloc (by omega) _⟩
    case round =>
      obtain ⟨k, hk, rfl, hFi, hbi⟩ := hrel
      obtain ⟨c0, c1, c2, c3, c4, fz⟩ := fbox_cells hFi
      simp only at c0 c1 c2 c3 c4
      have hFl := box_lt hFi
      have hq : wr.cell? ⟨g, 1, none⟩ = some (.string ⟨x1.toArray⟩) := (World.cell?_of_block (a := ⟨g, 1, none⟩) (hbi.block g hgF)).trans (own_cell HO4.out (j := 1) (l := x1) rfl)
      have hgi : g < wr.heap.size := by omega
      have HFi := Lib.hid hFi; clear hFi
      by_cases hk8 : k < 8
      · obtain ⟨K, hK⟩ : ∃ K, kindL ((k : Int) + 1) = K := ⟨_, rfl⟩
        have hkw : ∀ W : World, Calls Tryd.prog 28 #[.int .i64 ((k : Int) + 1)] W fun r w' => r = .returned (.string ⟨K.toArray⟩) ∧ Below W.heap.size W w' := fun W => by
          have := implKindWord_any ((k : Int) + 1) W
          rw [hK] at this; exact this
        have hk9 : (k : Int) + 1 ≤ 8 := by omega
        by_cases hxK : x1 = K
        · have hkf : kf x1 (k + 1) 0 = (k : Int) + 1 := by rw [kf, if_pos (by rw [hxK, ← hK]; rfl)]; rfl
          have e1 : (K == x1) = true := by simpa using hxK.symm
          have e2 : ((⟨K.toArray⟩ : ByteArray).toList == (⟨x1.toArray⟩ : ByteArray).toList) = true := by rw [hxK]; simp
          clear hxK hK
          go_wp2_with fail
          (refine wp_region_ext (by kernel_rfl) (by kernel_rfl) ?_; (repeat (go_big_quiet_step (first | (go_at_call 28; refine Calls.ext_of (hkw _))))); refine wpQuiet_nil ?_; intro w12 hb12; obtain ⟨hc12, hf12⟩ := bcell hb12; have hz12 := hb12.size; (try simp only [World.size_alloc, World.size_setCell, World.size_drew] at hz12))
          have hF12 := (hb12.block F hFl).trans HFi.out
          obtain ⟨c0', c1', c2', c3', c4', fz'⟩ := fbox_cells hF12
          have HF12 := Lib.hid hF12
          have hFl2 := box_lt hF12
          have hT12 : Below F w4 w12 := hbi.trans (hb12.mono (by omega))
          clear hb12 hc12 hf12 hF12 c0 c1 c2 c3 c4 fz
          go_wp2_with fail
          go_roundw
          case rel => exact ⟨k + 1, by omega, by go_num, fbox_set HF12.out (by rw [hkf]; rfl), hT12.setCell (Nat.le_refl _) _⟩
          case measure => simp [intOf]; omega
        · have hkf : kf x1 (k + 1) 0 = kf x1 k 0 := by rw [kf, if_neg (by rw [show ((k + 1 : Nat) : Int) = (k : Int) + 1 from rfl, hK]; exact hxK)]
          have e1 : (K == x1) = false := by rw [beq_eq_false_iff_ne]; exact fun e => hxK e.symm
          have e2 : ((⟨K.toArray⟩ : ByteArray).toList == (⟨x1.toArray⟩ : ByteArray).toList) = false := by rw [beq_bytes, decide_eq_false]; intro e; apply hxK; have := congrArg bL e; simpa [bL] using this.symm
          clear hxK hK
          go_wp2_with fail
          (refine wp_region_ext (by kernel_rfl) (by kernel_rfl) ?_; (repeat (go_big_quiet_step (first | (go_at_call 28; refine Calls.ext_of (hkw _))))); refine wpQuiet_nil ?_; intro w12 hb12; obtain ⟨hc12, hf12⟩ := bcell hb12; have hz12 := hb12.size; (try simp only [World.size_alloc, World.size_setCell, World.size_drew] at hz12))
          have hF12 := (hb12.block F hFl).trans HFi.out
          have HF12 := Lib.hid hF12
          have hT12 : Below F w4 w12 := hbi.trans (hb12.mono (by omega))
          clear hb12 hc12 hf12 hF12 c0 c1 c2 c3 c4 fz
          go_wp2_with fail
          go_roundw
          case rel => exact ⟨k + 1, by omega, by go_num, by rw [hkf]; exact HF12.out, hT12⟩
          case measure => simp [intOf]; omega
      · obtain rfl : k = 8 := by omega
        have hcl : (2 : Int) ≤ cap := by simp at hcap; omega
        have hcl2 : (2 : Int) ≤ ((x0 :: x1 :: wr1).length : Int) := by simp; omega
        clear c0 c1 c2 c3 c4 fz hq
        by_cases hc2 : cap = 2
        · have hw0 : wr1.length = 0 := by simp at hcap; omega
          go_wp2_with fail
          go_loopw [41] (fun i wi => ∃ j : Nat, j ≤ wr1.length ∧ i = .int .i64 j ∧ (∃ f : Fld, wi.heap[F]? = some (.cells (fcs f) 25 (0, 0)) ∧ Hid (f = (wr1.take j).foldl stepI ⟨N0, kf x1 8 0, false, false, 0⟩)) ∧ Below F w4 wi) (fun i _ => wr1.length - (intOf i).toNat)
          case atStart => exact ⟨0, Nat.zero_le _, rfl, ⟨_, HFi.out, Lib.hid rfl⟩, hbi⟩
          case round =>
            obtain ⟨j, hj, rfl, ⟨f, hF, HFo⟩, hb⟩ := hrel
            have hFl := box_lt hF
            have HF := Lib.hid hF; clear hF HFi
            by_cases hlt : j < wr1.length
            · omega
            · have hje : j = wr1.length := by omega
              have hfs : f = implP x0 x1 wr1 := by rw [HFo.out, hje, List.take_of_length_le (Nat.le_refl _), ← hN0]; rfl
              have HFS := Lib.hid hfs; clear hfs
              obtain ⟨c0, c1, c2, c3, c4, fz⟩ := fbox_cells HF.out
              obtain ⟨G, hG⟩ : ∃ G, fieldL f = G := ⟨_, rfl⟩
              have hft : ∀ W : World, TabW W → Calls Tryd.prog 9 #[.agg #[.int .i64 f.number, .int .i64 f.kind, .bool f.rep, .bool f.packed, .int .i64 f.msg]] W fun r w' => r = .returned (.string ⟨G.toArray⟩) ∧ Below W.heap.size W w' := fun W hW => by
                have := implFieldText_any f W hW
                rw [sB, hG] at this; exact this
              have HRes0 := (hb.block w.heap.size (by omega)).trans HRes4.out
              have HRl := box_lt HRes0
              have HRS := Lib.hid HRes0; clear HRes0
              have hTw : Below w.heap.size w wr := hT4.trans (hb.mono (by omega))
              have hRF : ¬ w.heap.size = F := by omega
              have hRF2 : ¬ F = w.heap.size := by omega
              go_wp2_with fail
              refine (hft _ (HW.out.keep hTw).num.tab).mono ?_
              rintro r w14 ⟨rfl, hb14⟩
              have hF14 := (hb14.block F hFl).trans HF.out
              have hR14 := (hb14.block w.heap.size HRl).trans HRS.out
              obtain ⟨d0, d1, d2, d3, d4, dz⟩ := fbox_cells hF14
              obtain ⟨r0, r1, r2, r3, r4, rz⟩ := fbox_cells hR14
              simp only at r0 r1 r2 r3 r4
              have hRl14 := box_lt hR14
              have hT14 : Below w.heap.size w w14 := hTw.trans (hb14.mono hTw.size)
              by_cases heq : G = bL s
              · have hRR2 : (RF, RB) = (f, true) := by rw [HRR.out, if_pos (by rw [← HFS.out, hG, heq]), ← HFS.out]
                simp only [Prod.mk.injEq] at hRR2
                obtain ⟨rfl, rfl⟩ := hRR2
                have e1 : ((⟨G.toArray⟩ : ByteArray).toList == s.toList) = true := by rw [heq, ← str_of_bL]; simp
                have e2 : (G == s.toList) = true := by rw [ByteArray.toList_eq, heq]; simp [bL]
                clear heq hG hft HF HFS hF14 hR14 c0 c1 c2 c3 c4 fz
                go_wp2_with fail
                refine bodyPost_ret (v := .tuple #[RF.val, .bool true]) (by simp [results, Tryd.results16, go_sem, hRl14, r0, r1, r2, r3, r4]) rfl ⟨rfl, ((((hT14.setCell (Nat.le_refl _) _).setCell (Nat.le_refl _) _).setCell (Nat.le_refl _) _).setCell (Nat.le_refl _) _).setCell (Nat.le_refl _) _⟩
              · have hRR2 : (RF, RB) = (zeroR, false) := by rw [HRR.out, if_neg (by rw [← HFS.out, hG]; exact heq)]
                simp only [Prod.mk.injEq] at hRR2
                obtain ⟨rfl, rfl⟩ := hRR2
                have e1 : ((⟨G.toArray⟩ : ByteArray).toList == s.toList) = false := by rw [beq_bytes, decide_eq_false]; intro e; apply heq; have := congrArg bL e; simpa [bL] using this
                have e2 : (G == s.toList) = false := by rw [ByteArray.toList_eq, beq_eq_false_iff_ne]; exact heq
                clear heq hG hft HF HFS hF14 hR14 c0 c1 c2 c3 c4 fz d0 d1 d2 d3 d4 dz
                go_wp2_with fail
                refine bodyPost_ret (v := .tuple #[zeroR.val, .bool false]) (by simp [results, Tryd.results16, go_sem, zeroR, hRl14, r0, r1, r2, r3, r4]) rfl ⟨rfl, ((((hT14.setCell (Nat.le_refl _) _).setCell (Nat.le_refl _) _).setCell (Nat.le_refl _) _).setCell (Nat.le_refl _) _).setCell (Nat.le_refl _) _⟩
        · have hc3 : 2 < cap := by omega
          simp only [show ((8 : Nat) : Int) + 1 = 9 from rfl]
          go_wp2_with fail
          go_loopw [41] (fun i wi => ∃ j : Nat, j ≤ wr1.length ∧ i = .int .i64 j ∧ (∃ f : Fld, wi.heap[F]? = some (.cells (fcs f) 25 (0, 0)) ∧ Hid (f = (wr1.take j).foldl stepI ⟨N0, kf x1 8 0, false, false, 0⟩)) ∧ Below F w4 wi) (fun i _ => wr1.length - (intOf i).toNat)
          case atStart => exact ⟨0, Nat.zero_le _, rfl, ⟨_, HFi.out, Lib.hid rfl⟩, hbi⟩
          case round =>
            obtain ⟨j, hj, rfl, ⟨f, hF, HFo⟩, hb⟩ := hrel
            have hFl := box_lt hF
            have HF := Lib.hid hF; clear hF HFi
            by_cases hlt : j < wr1.length
            · obtain ⟨x, hx, hxm⟩ := at_lt (xs := wr1) (k := j) hlt
              have hq : wr.cell? ⟨g, 2 + j, none⟩ = some (.string ⟨x.toArray⟩) := (World.cell?_of_block (a := ⟨g, 2 + j, none⟩) (hb.block g hgF)).trans (own_cell HO4.out (j := 2 + j) (l := x) (by rw [show 2 + j = j + 1 + 1 by omega, List.getElem?_cons_succ, List.getElem?_cons_succ]; exact hx))
              have HFn := Lib.hid (foldl_snocI (f0 := ⟨N0, kf x1 8 0, false, false, 0⟩) hx)
              rw [← HFo.out] at HFn
              have hxl := hwx x (List.mem_cons_of_mem _ (List.mem_cons_of_mem _ hxm))
              have hgi : g < wr.heap.size := by omega
              have hgne : ¬ g = F := by omega
              have hgne2 : ¬ F = g := by omega
              have hlc : (j : Int) < (wr1.length : Int) := by omega
              obtain ⟨c0, c1, c2, c3, c4, fz⟩ := fbox_cells HF.out
              obtain ⟨a1, a2, a3, a4, a5⟩ := f
              simp only at c0 c1 c2 c3 c4 HF
              clear hx hxm HFo
              by_cases hrp : x = repW
              · have r1 : ((⟨x.toArray⟩ : ByteArray).toList == (⟨#[114, 101, 112, 101, 97, 116, 101, 100]⟩ : ByteArray).toList) = true := by rw [beq_bytes]; exact decide_eq_true (by rw [hrp]; rfl)
                have r3 : (x == [114, 101, 112, 101, 97, 116, 101, 100]) = true := by rw [beq_iff_eq]; exact hrp
                have HH := Lib.hid (show (wr1.take (j + 1)).foldl stepI ⟨N0, kf x1 8 0, false, false, 0⟩ = ⟨a1, a2, true, a4, a5⟩ by rw [HFn.out, stepI, if_pos hrp])
                clear hrp HFn
                go_wp2_with fail
                go_roundw
                case rel => exact ⟨j + 1, by omega, by go_num, ⟨⟨a1, a2, true, a4, a5⟩, fbox_set HF.out rfl, Lib.hid HH.out.symm⟩, hb.setCell (Nat.le_refl _) _⟩
                case measure => simp [intOf]; omega
              · have r1 : ((⟨x.toArray⟩ : ByteArray).toList == (⟨#[114, 101, 112, 101, 97, 116, 101, 100]⟩ : ByteArray).toList) = false := by rw [beq_bytes, decide_eq_false]; intro e; apply hrp; have := congrArg bL e; simpa [bL, repW] using this
                have r3 : (x == [114, 101, 112, 101, 97, 116, 101, 100]) = false := by rw [beq_eq_false_iff_ne]; exact hrp
                by_cases hpk : x = packW
                · have p1 : ((⟨x.toArray⟩ : ByteArray).toList == (⟨#[112, 97, 99, 107, 101, 100]⟩ : ByteArray).toList) = true := by rw [beq_bytes]; exact decide_eq_true (by rw [hpk]; rfl)
                  have p3 : (x == [112, 97, 99, 107, 101, 100]) = true := by rw [beq_iff_eq]; exact hpk
                  have HH := Lib.hid (show (wr1.take (j + 1)).foldl stepI ⟨N0, kf x1 8 0, false, false, 0⟩ = ⟨a1, a2, a3, true, a5⟩ by rw [HFn.out, stepI, if_neg hrp, if_pos hpk])
                  clear hrp hpk HFn
                  go_wp2_with fail
                  go_roundw
                  case rel => exact ⟨j + 1, by omega, by go_num, ⟨⟨a1, a2, a3, true, a5⟩, fbox_set HF.out rfl, Lib.hid HH.out.symm⟩, hb.setCell (Nat.le_refl _) _⟩
                  case measure => simp [intOf]; omega
                · have p1 : ((⟨x.toArray⟩ : ByteArray).toList == (⟨#[112, 97, 99, 107, 101, 100]⟩ : ByteArray).toList) = false := by rw [beq_bytes, decide_eq_false]; intro e; apply hpk; have := congrArg bL e; simpa [bL, packW] using this
                  have p3 : (x == [112, 97, 99, 107, 101, 100]) = false := by rw [beq_eq_false_iff_ne]; exact hpk
                  obtain ⟨V, hV⟩ : ∃ V, numD x = V := ⟨_, rfl⟩
                  have hnx : ∀ W : World, TxtW W → Calls Tryd.prog 39 #[.string ⟨x.toArray⟩] W fun r w' => r = .returned (.tuple #[.int .i64 V, .bool (numUpto 999999999 x).isSome]) ∧ Below W.heap.size W w' := fun W hW => by
                    have := hnum x W hW hxl
                    rw [hV] at this; exact this
                  have HH := Lib.hid (show (wr1.take (j + 1)).foldl stepI ⟨N0, kf x1 8 0, false, false, 0⟩ = ⟨a1, a2, a3, a4, V⟩ by rw [HFn.out, stepI, if_neg hrp, if_neg hpk, hV])
                  have hTw : Below w.heap.size w wr := hT4.trans (hb.mono (by omega))
                  clear hrp hpk HFn hV
                  go_wp2_with fail
                  refine (hnx _ (HW.out.keep hTw)).mono ?_
                  rintro r w13 ⟨rfl, hb13⟩
                  have hF13 := (hb13.block F hFl).trans HF.out
                  obtain ⟨c0', c1', c2', c3', c4', fz'⟩ := fbox_cells hF13
                  have HF13 := Lib.hid hF13
                  have hT13 : Below F w4 w13 := hb.trans (hb13.mono (by omega))
                  have hFl13 := box_lt hF13
                  clear hb13 hF13 c0 c1 c2 c3 c4 fz hnx
                  go_wp2_with fail
                  go_roundw
                  case rel => exact ⟨j + 1, by omega, by go_num, ⟨⟨a1, a2, a3, a4, V⟩, fbox_set HF13.out rfl, Lib.hid HH.out.symm⟩, hT13.setCell (Nat.le_refl _) _⟩
                  case measure => simp [intOf]; omega
            · have hje : j = wr1.length := by omega
              have hfs : f = implP x0 x1 wr1 := by rw [HFo.out, hje, List.take_of_length_le (Nat.le_refl _), ← hN0]; rfl
              have HFS := Lib.hid hfs; clear hfs
              obtain ⟨c0, c1, c2, c3, c4, fz⟩ := fbox_cells HF.out
              obtain ⟨G, hG⟩ : ∃ G, fieldL f = G := ⟨_, rfl⟩
              have hft : ∀ W : World, TabW W → Calls Tryd.prog 9 #[.agg #[.int .i64 f.number, .int .i64 f.kind, .bool f.rep, .bool f.packed, .int .i64 f.msg]] W fun r w' => r = .returned (.string ⟨G.toArray⟩) ∧ Below W.heap.size W w' := fun W hW => by
                have := implFieldText_any f W hW
                rw [sB, hG] at this; exact this
              have HRes0 := (hb.block w.heap.size (by omega)).trans HRes4.out
              have HRl := box_lt HRes0
              have HRS := Lib.hid HRes0; clear HRes0
              have hTw : Below w.heap.size w wr := hT4.trans (hb.mono (by omega))
              have hRF : ¬ w.heap.size = F := by omega
              have hRF2 : ¬ F = w.heap.size := by omega
              go_wp2_with fail
              refine (hft _ (HW.out.keep hTw).num.tab).mono ?_
              rintro r w14 ⟨rfl, hb14⟩
              have hF14 := (hb14.block F hFl).trans HF.out
              have hR14 := (hb14.block w.heap.size HRl).trans HRS.out
              obtain ⟨d0, d1, d2, d3, d4, dz⟩ := fbox_cells hF14
              obtain ⟨r0, r1, r2, r3, r4, rz⟩ := fbox_cells hR14
              simp only at r0 r1 r2 r3 r4
              have hRl14 := box_lt hR14
              have hT14 : Below w.heap.size w w14 := hTw.trans (hb14.mono hTw.size)
              by_cases heq : G = bL s
              · have hRR2 : (RF, RB) = (f, true) := by rw [HRR.out, if_pos (by rw [← HFS.out, hG, heq]), ← HFS.out]
                simp only [Prod.mk.injEq] at hRR2
                obtain ⟨rfl, rfl⟩ := hRR2
                have e1 : ((⟨G.toArray⟩ : ByteArray).toList == s.toList) = true := by rw [heq, ← str_of_bL]; simp
                have e2 : (G == s.toList) = true := by rw [ByteArray.toList_eq, heq]; simp [bL]
                clear heq hG hft HF HFS hF14 hR14 c0 c1 c2 c3 c4 fz
                go_wp2_with fail
                refine bodyPost_ret (v := .tuple #[RF.val, .bool true]) (by simp [results, Tryd.results16, go_sem, hRl14, r0, r1, r2, r3, r4]) rfl ⟨rfl, ((((hT14.setCell (Nat.le_refl _) _).setCell (Nat.le_refl _) _).setCell (Nat.le_refl _) _).setCell (Nat.le_refl _) _).setCell (Nat.le_refl _) _⟩
              · have hRR2 : (RF, RB) = (zeroR, false) := by rw [HRR.out, if_neg (by rw [← HFS.out, hG]; exact heq)]
                simp only [Prod.mk.injEq] at hRR2
                obtain ⟨rfl, rfl⟩ := hRR2
                have e1 : ((⟨G.toArray⟩ : ByteArray).toList == s.toList) = false := by rw [beq_bytes, decide_eq_false]; intro e; apply heq; have := congrArg bL e; simpa [bL] using this
                have e2 : (G == s.toList) = false := by rw [ByteArray.toList_eq, beq_eq_false_iff_ne]; exact heq
                clear heq hG hft HF HFS hF14 hR14 c0 c1 c2 c3 c4 fz d0 d1 d2 d3 d4 dz
                go_wp2_with fail
                refine bodyPost_ret (v := .tuple #[zeroR.val, .bool false]) (by simp [results, Tryd.results16, go_sem, zeroR, hRl14, r0, r1, r2, r3, r4]) rfl ⟨rfl, ((((hT14.setCell (Nat.le_refl _) _).setCell (Nat.le_refl _) _).setCell (Nat.le_refl _) _).setCell (Nat.le_refl _) _).setCell (Nat.le_refl _) _⟩
def fwords (f : Fld) : List (List UInt8) := Lib.itoa f.number :: kindL f.kind :: ((if f.kind = 8 then [Lib.itoa f.msg] else []) ++ ((if f.rep = true then [repW] else []) ++ (if f.packed = true then [packW] else [])))
theorem itoa_nat {n : Int} (h : 0 ≤ n) : Lib.itoa n = Lib.decDigits n.toNat := by unfold Lib.itoa; rw [if_neg (by omega)]
theorem dec_neq {l : List UInt8} (h : Lib.decFrom 0 l = none) (v : Nat) : Lib.decDigits v ≠ l := fun e => by rw [← e, decFrom_dec] at h; cases h
theorem kf_kind {k : Int} (h1 : 1 ≤ k) (h2 : k ≤ 8) (k0 : Int) : kf (kindL k) 8 k0 = k := by rcases eightK h1 h2 with rfl | rfl | rfl | rfl | rfl | rfl | rfl | rfl <;> rfl
theorem rep_nodec : Lib.decFrom 0 repW = none := rfl
theorem pack_nodec : Lib.decFrom 0 packW = none := rfl
theorem numD_dec {v : Nat} (h : v ≤ 999999999) : numD (Lib.decDigits v) = v := by rw [numD, numUpto_yes h]; rfl
theorem stepI_num {f : Fld} {v : Nat} (h : v ≤ 999999999) : stepI f (Lib.decDigits v) = ⟨f.number, f.kind, f.rep, f.packed, v⟩ := by
  rw [stepI, if_neg (dec_neq rep_nodec v), if_neg (dec_neq pack_nodec v), numD_dec h]
theorem stepI_rep {f : Fld} : stepI f repW = ⟨f.number, f.kind, true, f.packed, f.msg⟩ := rfl
theorem stepI_pack {f : Fld} : stepI f packW = ⟨f.number, f.kind, f.rep, true, f.msg⟩ := by rw [stepI, if_neg (by decide), if_pos rfl]
theorem okT_parts {f : Fld} (h : fieldOkT f = true) : (1 ≤ f.number ∧ f.number ≤ 536870911) ∧ (1 ≤ f.kind ∧ f.kind ≤ 8) ∧ ((f.kind = 8 ∧ 1 ≤ f.msg ∧ f.msg ≤ 99) ∨ (f.kind ≠ 8 ∧ f.msg = 0)) := by
  simp only [fieldOkT, Bool.and_eq_true, inB, decide_eq_true_eq] at h
  obtain ⟨h1, h2, h3⟩ := h
  refine ⟨h1, h2, ?_⟩
  by_cases h8 : f.kind = 8
  · rw [if_pos h8] at h3; exact .inl ⟨h8, by simpa using h3⟩
  · rw [if_neg h8] at h3; exact .inr ⟨h8, by simpa using h3⟩
theorem implP_words {f : Fld} (h : fieldOkT f = true) : implP (Lib.itoa f.number) (kindL f.kind) ((if f.kind = 8 then [Lib.itoa f.msg] else []) ++ ((if f.rep = true then [repW] else []) ++ (if f.packed = true then [packW] else []))) = f := by
  obtain ⟨⟨h1, h2⟩, ⟨k1, k2⟩, hm⟩ := okT_parts h
  obtain ⟨n, k, rp, pk, m⟩ := f
  simp only at h1 h2 k1 k2 hm ⊢
  have e1 : numD (Lib.itoa n) = n := by rw [itoa_nat (by omega), numD_dec (by omega)]; omega
  rcases hm with ⟨h8, m1, m2⟩ | ⟨h8, rfl⟩
  · have em : ∀ g : Fld, stepI g (Lib.itoa m) = ⟨g.number, g.kind, g.rep, g.packed, m⟩ := fun g => by
      rw [itoa_nat (by omega), stepI_num (by omega), show ((m.toNat : Nat) : Int) = m by omega]
    subst h8
    cases rp <;> cases pk <;> simp [implP, e1, kf_kind, em, stepI_rep, stepI_pack]
  · cases rp <;> cases pk <;> simp [implP, e1, kf_kind k1 k2, h8, stepI_rep, stepI_pack]
theorem dec_free (u : Nat) : ∀ b ∈ Lib.decDigits u, 48 ≤ b.toNat ∧ b.toNat ≤ 57 := by
  induction u using Nat.strongRecOn with
  | _ u ih =>
    by_cases h : u < 10
    · rw [dec_lt h]; intro b hb; rw [List.mem_singleton] at hb; subst hb
      have : (UInt8.ofNat (48 + u)).toNat = 48 + u := by rw [UInt8.toNat_ofNat']; omega
      omega
    · rw [dec_ge h]; intro b hb
      rcases List.mem_append.1 hb with hb | hb
      · exact ih (u / 10) (by omega) b hb
      · rw [List.mem_singleton] at hb; subst hb
        have : (UInt8.ofNat (48 + u % 10)).toNat = 48 + u % 10 := by rw [UInt8.toNat_ofNat']; omega
        omega
theorem itoa_free {n : Int} (h : 0 ≤ n) : ∀ b ∈ Lib.itoa n, 48 ≤ b.toNat ∧ b.toNat ≤ 57 := by rw [itoa_nat h]; exact dec_free _
theorem kind_free {k : Int} (h1 : 1 ≤ k) (h2 : k ≤ 8) : ∀ b ∈ kindL k, 97 ≤ b.toNat ∧ b.toNat ≤ 122 := by rcases eightK h1 h2 with rfl | rfl | rfl | rfl | rfl | rfl | rfl | rfl <;> decide
theorem rep_free : ∀ b ∈ repW, 97 ≤ b.toNat ∧ b.toNat ≤ 122 := by decide
theorem pack_free : ∀ b ∈ packW, 97 ≤ b.toNat ∧ b.toNat ≤ 122 := by decide
theorem fwords_free {f : Fld} (h : fieldOkT f = true) : ∀ w ∈ fwords f, ∀ b ∈ w, 48 ≤ b.toNat ∧ b.toNat ≠ 58 ∧ b.toNat ≠ 59 := by
  obtain ⟨⟨h1, h2⟩, ⟨k1, k2⟩, hm⟩ := okT_parts h
  intro w hw b hb
  simp only [fwords, List.mem_cons, List.mem_append] at hw
  rcases hw with rfl | rfl | hw | hw | hw
  · have := itoa_free (by omega) b hb; omega
  · have := kind_free k1 k2 b hb; omega
  · rcases hm with ⟨h8, m1, m2⟩ | ⟨h8, hm⟩
    · rw [if_pos h8, List.mem_singleton] at hw; subst hw; have := itoa_free (by omega) b hb; omega
    · rw [if_neg h8] at hw; cases hw
  · split at hw
    · rw [List.mem_singleton] at hw; subst hw; have := rep_free b hb; omega
    · cases hw
  · split at hw
    · rw [List.mem_singleton] at hw; subst hw; have := pack_free b hb; omega
    · cases hw
theorem fieldL_join {f : Fld} (h : fieldOkT f = true) : fieldL f = Lib.join (fwords f) [32] := by
  rw [fieldL_ok h]
  obtain ⟨n, k, rp, pk, m⟩ := f
  simp only [fwords]
  by_cases h8 : k = 8
  · cases rp <;> cases pk <;> simp [h8, Lib.join_cons, Lib.joinTail, repW, packW]
  · cases rp <;> cases pk <;> simp [h8, Lib.join_cons, Lib.joinTail, repW, packW]
theorem fwords_ne (f : Fld) : fwords f ≠ [] := by simp [fwords]
theorem fwords_len (f : Fld) : (fwords f).length ≤ 5 := by
  simp only [fwords, List.length_cons, List.length_append]
  split <;> split <;> split <;> simp
theorem partsL_field {f : Fld} (h : fieldOkT f = true) : partsL 32 (fieldL f) = fwords f := by
  rw [fieldL_join h]
  exact partsL_join (fwords_ne f) fun w hw b hb e => by have := fwords_free h w hw b hb; rw [e] at this; exact absurd this.1 (by decide)
theorem splitL_field {f : Fld} (h : fieldOkT f = true) : splitL 6 (fieldL f) 32 = fwords f := by
  have h1 := partsL_len 32 (fieldL f)
  rw [partsL_field h] at h1
  have h2 := fwords_len f
  rw [splitL]
  obtain ⟨K, hK⟩ : ∃ K, min 6 ((fieldL f).length + 1) - 1 = K := ⟨_, rfl⟩
  rw [hK, fieldL_join h]
  exact splitK_join (fwords_ne f) (by omega) fun w hw b hb e => by have := fwords_free h w hw b hb; rw [e] at this; exact absurd this.1 (by decide)
theorem dec_lenT (k u : Nat) (h1 : 1 ≤ k) (h2 : u < 10 ^ k) : (Lib.decDigits u).length ≤ k := by rw [Lib.decDigits_length]; exact nDig_le k u h1 h2
theorem fieldL_short {f : Fld} (h : fieldOkT f = true) : 1 ≤ (fieldL f).length ∧ (fieldL f).length ≤ 34 := by
  obtain ⟨⟨h1, h2⟩, ⟨k1, k2⟩, hm⟩ := okT_parts h
  rw [fieldL_ok h]
  have a1 : (Lib.itoa f.number).length ≤ 9 := by rw [itoa_nat (by omega)]; exact dec_lenT 9 _ (by omega) (by omega)
  have a2 : (kindL f.kind).length ≤ 5 := kindL_len _
  have a3 : (if f.kind = 8 then [(32 : UInt8)] ++ Lib.itoa f.msg else []).length ≤ 3 := by
    rcases hm with ⟨h8, m1, m2⟩ | ⟨h8, hm⟩
    · rw [if_pos h8, itoa_nat (by omega), List.length_append]
      have := dec_lenT 2 f.msg.toNat (by omega) (by omega)
      simp; omega
    · rw [if_neg h8]; simp
  have a4 : (if f.rep = true then [32, 114, 101, 112, 101, 97, 116, 101, 100] else ([] : List UInt8)).length ≤ 9 := by split <;> simp
  have a5 : (if f.packed = true then [32, 112, 97, 99, 107, 101, 100] else ([] : List UInt8)).length ≤ 7 := by split <;> simp
  simp only [List.length_append] at a3 ⊢
  simp only [List.length_cons, List.length_nil] at a3 ⊢
  omega
theorem readI_of {f : Fld} (h : fieldOkT f = true) : readI (fieldL f) = (f, true) := by
  rw [readI, splitL_field h, fwords, readW, implP_words h, if_pos rfl]
theorem okT_of_ne {f : Fld} {l : List UInt8} (h : fieldL f = l) (hl : l ≠ []) : fieldOkT f = true := by
  cases ho : fieldOkT f with
  | true => rfl
  | false => rw [fieldL_bad ho] at h; exact absurd h.symm hl
theorem readI_nil : readI [] = (zeroR, false) := rfl
theorem readI_not {l : List UInt8} (h : ∀ f, fieldOkT f = true → fieldL f ≠ l) : readI l = (zeroR, false) := by
  by_cases hl : l = []
  · rw [hl]; exact readI_nil
  · rw [readI]
    generalize splitL 6 l 32 = ws
    match ws with
    | [] => rfl
    | [x] => rfl
    | x0 :: x1 :: ws =>
      rw [readW, if_neg]
      intro e
      exact h _ (okT_of_ne e hl) e
theorem range_five {w : World} {B : Nat} {v0 v1 v2 v3 v4 : Value} (h : Cells [(⟨B, 0, none⟩, v0), (⟨B, 1, none⟩, v1), (⟨B, 2, none⟩, v2), (⟨B, 3, none⟩, v3), (⟨B, 4, none⟩, v4)] w) : w.rangeAt B 0 [v0, v1, v2, v3, v4] := by
  simp only [cells_cons, cells_nil, and_true] at h
  obtain ⟨h0, h1, h2, h3, h4⟩ := h
  intro j u hj
  rw [Nat.zero_add]
  match j, hj with
  | 0, hj => simp at hj; subst hj; exact h0
  | 1, hj => simp at hj; subst hj; exact h1
  | 2, hj => simp at hj; subst hj; exact h2
  | 3, hj => simp at hj; subst hj; exact h3
  | 4, hj => simp at hj; subst hj; exact h4
  | j + 5, hj => simp at hj
end Go.Proofs.YtbpilecgnfnndaaDoor
namespace Go.Proofs.YtbpilecgnfnndaaDoor
set_option linter.unusedSimpArgs false
set_option linter.unusedVariables false
open Go.ChangeShapes Go.WideShapes Go.ChangeAt Go.RowKit Go.BigFrame
end Go.Proofs.YtbpilecgnfnndaaDoor
namespace Go.Proofs.YtbpilecgnfnndaaDoor
set_option linter.unusedSimpArgs false
set_option linter.unusedVariables false
open Go.ChangeShapes Go.WideShapes Go.ChangeAt Go.RowKit Go.BigFrame
theorem own_box {w : World} {base n size : Nat} {t : TypeId} {v : Value} {L : List Value} (h : w.ownsRow base t size v n L) {g : Nat} (hg : v.ownBlock = some g) : ∃ cur, w.heap[g]? = some (.cells cur t (0, 0)) := by
  rcases h.2 with ⟨rfl, _⟩ | ⟨g', cap, cur, rfl, _, hh, _⟩
  · simp [Value.ownBlock] at hg
  · simp [Value.ownBlock] at hg; subst hg; exact ⟨cur, hh⟩
theorem own_at {w : World} {base n cap size g : Nat} {t : TypeId} {L : List Value} (h : w.ownsRow base t size (.slice (some ⟨g, 0, none⟩) n cap) n L) {j : Nat} {u : Value} (hj : L[j]? = some u) : w.cell? ⟨g, j, none⟩ = some u := by
  have := h.cells (g := g) rfl j u hj
  by_cases h0 : j = 0
  · subst h0; simpa [Addr.add] using this
  · simpa [Addr.add, h0] using this
theorem shr_setF : ∀ (rs : List ShR) (k : Nat) (r s : ShR), rs[k]? = some r → s.id = r.id → (rs.flatMap ShR.cs).set (k * 2 + 1) (.slice s.a s.n s.cap) = (rs.set k s).flatMap ShR.cs
  | [], k, r, s, h, _ => by simp at h
  | x :: rs, 0, r, s, h, hid => by
    simp at h; subst h
    simp [ShR.cs, hid]
  | x :: rs, k + 1, r, s, h, hid => by
    have ih := shr_setF rs k r s (by simpa using h) hid
    simp only [List.flatMap_cons, List.set_cons_succ, ShR.cs] at ih ⊢
    rw [show (k + 1) * 2 + 1 = (k * 2 + 1) + 1 + 1 by omega]
    simpa using ih
theorem shr_setId : ∀ (rs : List ShR) (k : Nat) (r s : ShR), rs[k]? = some r → s.a = r.a → s.n = r.n → s.cap = r.cap → (rs.flatMap ShR.cs).set (k * 2) (.int .i64 s.id) = (rs.set k s).flatMap ShR.cs
  | [], k, r, s, h, _, _, _ => by simp at h
  | x :: rs, 0, r, s, h, h1, h2, h3 => by
    simp at h; subst h
    simp [ShR.cs, h1, h2, h3]
  | x :: rs, k + 1, r, s, h, h1, h2, h3 => by
    have ih := shr_setId rs k r s (by simpa using h) h1 h2 h3
    simp only [List.flatMap_cons, List.set_cons_succ, ShR.cs] at ih ⊢
    rw [show (k + 1) * 2 = (k * 2) + 1 + 1 by omega]
    simpa using ih
section
variable {w w' : World} {base n q : Nat} {T TF : TypeId} {v : Value} {rs : List ShR} {xs : List Shp} {r : ShR} {x : Shp}
theorem OwnShs.outerNe (h : OwnShs w base T TF v n rs xs) (hne : T ≠ TF) (hr : rs[q]? = some r) (hx : xs[q]? = some x) {b : Nat} (hb : (Value.slice r.a r.n r.cap).ownBlock = some b) : v.ownBlock ≠ some b := by
  intro e
  obtain ⟨c1, h1⟩ := own_box h.outer e
  obtain ⟨c2, h2⟩ := own_box (h.each q r x hr hx).2.2 hb
  rw [h1] at h2
  simp at h2
  exact hne h2.2
theorem OwnShs.outerKept (h : OwnShs w base T TF v n rs xs) (hne : T ≠ TF) (hr : rs[q]? = some r) (hx : xs[q]? = some x) (hg : w.grownBy w' (Value.slice r.a r.n r.cap).ownBlock) : w'.ownsRow base T 2 v n (rs.flatMap ShR.cs) := by
  cases hb : (Value.slice r.a r.n r.cap).ownBlock with
  | none =>
    refine h.outer.kept hg ?_
    rw [hb]
    cases hv : v.ownBlock with
    | none => exact .inl rfl
    | some g => exact .inr (by simp)
  | some b => exact h.outer.kept hg (.inr (by rw [hb]; exact h.outerNe hne hr hx hb))
theorem OwnShs.eachKept (h : OwnShs w base T TF v n rs xs) (hr : rs[q]? = some r) (hg : w.grownBy w' (Value.slice r.a r.n r.cap).ownBlock) {i : Nat} {s : ShR} {y : Shp} (hi : i ≠ q) (hs : rs[i]? = some s) (hy : xs[i]? = some y) : RowIs w' base TF s y := by
  obtain ⟨e1, e2, e3⟩ := h.each i s y hs hy
  refine ⟨e1, e2, e3.kept hg ?_⟩
  cases hb : (Value.slice s.a s.n s.cap).ownBlock with
  | none => exact .inl rfl
  | some b => exact .inr (fun e => h.apart i q s r hs hr hi b hb e.symm)
theorem OwnShs.row (h : OwnShs w base T TF v n rs xs) (hne : T ≠ TF) (hr : rs[q]? = some r) (hx : xs[q]? = some x) (hg : w.grownBy w' (Value.slice r.a r.n r.cap).ownBlock) {fs : List Fld} (hl : r.n = fs.length) (ho : w'.ownsRow base TF 5 (.slice r.a r.n r.cap) r.n (fs.flatMap Fld.cs)) :
    OwnShs w' base T TF v n rs (xs.set q ⟨x.id, fs⟩) := by
  refine ⟨h.len, by simp [h.lenx], h.outerKept hne hr hx hg, ?_, h.apart⟩
  intro i s y hs hy
  by_cases hi : q = i
  · subst hi
    rw [List.getElem?_set_self (List.getElem?_eq_some_iff.1 hx).1] at hy
    simp at hy; subst hy
    rw [hr] at hs; simp at hs; subst hs
    exact ⟨(h.each q r x hr hx).1, hl, ho⟩
  · rw [List.getElem?_set_ne hi] at hy
    exact h.eachKept hr hg (Ne.symm hi) hs hy
theorem OwnShs.growAt {g cap : Nat} (h : OwnShs w base T TF (.slice (some ⟨g, 0, none⟩) n cap) n rs xs) (hne : T ≠ TF) (hr : rs[q]? = some r) (hx : xs[q]? = some x) (hg : w.grownBy w' (Value.slice r.a r.n r.cap).ownBlock) {a' : Option Addr} {m' cap' : Nat} {fs : List Fld}
    (hl : m' = fs.length) (ho : w'.ownsRow base TF 5 (.slice a' m' cap') m' (fs.flatMap Fld.cs)) (hat : ∀ b, (Value.slice a' m' cap').ownBlock = some b → (Value.slice r.a r.n r.cap).ownBlock = some b ∨ w.heap.size ≤ b) :
    OwnShs (w'.setCell ⟨g, q * 2 + 1, none⟩ (.slice a' m' cap')) base T TF (.slice (some ⟨g, 0, none⟩) n cap) n (rs.set q ⟨r.id, a', m', cap'⟩) (xs.set q ⟨x.id, fs⟩) := by
  have hout := h.outerKept hne hr hx hg
  have hst := hout.stored (q * 2 + 1) (.slice a' m' cap')
  have hgl := (h.outer.lt g rfl).2
  have far : ∀ {s : ShR} {y : Shp}, RowIs w' base TF s y → RowIs (w'.setCell ⟨g, q * 2 + 1, none⟩ (.slice a' m' cap')) base TF s y := by
    intro s y ⟨e1, e2, e3⟩
    refine ⟨e1, e2, e3.kept hst.2 (.inr ?_)⟩
    intro e
    obtain ⟨c1, h1⟩ := own_box hout (g := g) rfl
    obtain ⟨c2, h2⟩ := own_box e3 e
    rw [h1] at h2
    simp at h2
    exact hne h2.2
  have hq := (List.getElem?_eq_some_iff.1 hr).1
  refine ⟨by simp [h.len], by simp [h.lenx], ?_, ?_, ?_⟩
  · have := hst.1
    rw [shr_setF rs q r ⟨r.id, a', m', cap'⟩ hr rfl] at this
    exact this
  · intro i s y hs hy
    by_cases hi : q = i
    · subst hi
      rw [List.getElem?_set_self hq] at hs
      rw [List.getElem?_set_self (List.getElem?_eq_some_iff.1 hx).1] at hy
      simp at hs hy; subst hs; subst hy
      exact far ⟨(h.each q r x hr hx).1, hl, ho⟩
    · rw [List.getElem?_set_ne hi] at hs hy
      exact far (h.eachKept hr hg (Ne.symm hi) hs hy)
  · have key : ∀ {j : Nat} {t : ShR} {y : Shp}, j ≠ q → rs[j]? = some t → xs[j]? = some y → ∀ b, (Value.slice a' m' cap').ownBlock = some b → (Value.slice t.a t.n t.cap).ownBlock ≠ some b := by
      intro j t y hj ht hy b hb hb'
      rcases hat b hb with h1 | h1
      · exact h.apart j q t r ht hr hj b hb' h1
      · have := ((h.each j t y ht hy).2.2.lt b hb').2
        omega
    have some_ : ∀ {j : Nat} {t : ShR}, rs[j]? = some t → ∃ y, xs[j]? = some y := by
      intro j t ht
      have := (List.getElem?_eq_some_iff.1 ht).1
      rw [h.len, ← h.lenx] at this
      exact ⟨xs[j], List.getElem?_eq_getElem this⟩
    intro i j s t hs ht hij b hb hb'
    by_cases hi : q = i
    · subst hi
      rw [List.getElem?_set_self hq] at hs
      rw [List.getElem?_set_ne hij] at ht
      simp at hs; subst hs
      obtain ⟨y, hy⟩ := some_ ht
      exact key (Ne.symm hij) ht hy b hb hb'
    · rw [List.getElem?_set_ne hi] at hs
      by_cases hj : q = j
      · subst hj
        rw [List.getElem?_set_self hq] at ht
        simp at ht; subst ht
        obtain ⟨y, hy⟩ := some_ hs
        exact key hij hs hy b hb' hb
      · rw [List.getElem?_set_ne hj] at ht
        exact h.apart i j s t hs ht hij b hb hb'
theorem OwnShs.setId {g cap : Nat} (h : OwnShs w base T TF (.slice (some ⟨g, 0, none⟩) n cap) n rs xs) (hne : T ≠ TF) (hr : rs[q]? = some r) (hx : xs[q]? = some x) (i : Int) :
    OwnShs (w.setCell ⟨g, q * 2, none⟩ (.int .i64 i)) base T TF (.slice (some ⟨g, 0, none⟩) n cap) n (rs.set q ⟨i, r.a, r.n, r.cap⟩) (xs.set q ⟨i, x.flds⟩) := by
  have hst := h.outer.stored (q * 2) (.int .i64 i)
  have far : ∀ {s : ShR} {y : Shp}, RowIs w base TF s y → RowIs (w.setCell ⟨g, q * 2, none⟩ (.int .i64 i)) base TF s y := by
    intro s y ⟨e1, e2, e3⟩
    refine ⟨e1, e2, e3.kept hst.2 (.inr ?_)⟩
    intro e
    obtain ⟨c1, h1⟩ := own_box h.outer (g := g) rfl
    obtain ⟨c2, h2⟩ := own_box e3 e
    rw [h1] at h2
    simp at h2
    exact hne h2.2
  have hq := (List.getElem?_eq_some_iff.1 hr).1
  refine ⟨by simp [h.len], by simp [h.lenx], ?_, ?_, ?_⟩
  · have := hst.1
    rw [shr_setId rs q r ⟨i, r.a, r.n, r.cap⟩ hr rfl rfl rfl] at this
    exact this
  · intro j s y hs hy
    by_cases hj : q = j
    · subst hj
      rw [List.getElem?_set_self hq] at hs
      rw [List.getElem?_set_self (List.getElem?_eq_some_iff.1 hx).1] at hy
      simp at hs hy; subst hs; subst hy
      obtain ⟨-, e2, e3⟩ := h.each q r x hr hx
      exact far ⟨rfl, e2, e3⟩
    · rw [List.getElem?_set_ne hj] at hs hy
      exact far (h.each j s y hs hy)
  · have same : ∀ {j : Nat} {t : ShR}, (rs.set q ⟨i, r.a, r.n, r.cap⟩)[j]? = some t → ∃ t0, rs[j]? = some t0 ∧ t0.a = t.a ∧ t0.n = t.n ∧ t0.cap = t.cap := by
      intro j t ht
      by_cases hj : q = j
      · subst hj
        rw [List.getElem?_set_self hq] at ht
        simp at ht; subst ht
        exact ⟨r, hr, rfl, rfl, rfl⟩
      · rw [List.getElem?_set_ne hj] at ht
        exact ⟨t, ht, rfl, rfl, rfl⟩
    intro j k s t hs ht hjk b hb hb'
    obtain ⟨s0, hs0, e1, e2, e3⟩ := same hs
    obtain ⟨t0, ht0, f1, f2, f3⟩ := same ht
    exact h.apart j k s0 t0 hs0 ht0 hjk b (by rw [e1, e2, e3]; exact hb) (by rw [f1, f2, f3]; exact hb')
end
end Go.Proofs.YtbpilecgnfnndaaDoor

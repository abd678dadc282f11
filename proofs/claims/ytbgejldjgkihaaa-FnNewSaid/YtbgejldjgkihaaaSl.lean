/- Slices whose elements are rows of cells: what they hold, told by a plain list. -/
import Derived.Test.YtbgejldjgkihaaaEv
import Derived.Lib.SmallJoins
namespace Go.Proofs.Ytbgejldjgkihaaa
set_option linter.unusedSimpArgs false
set_option linter.unusedVariables false
open Go.ChangeShapes Go.WideShapes Go.ChangeAt Go.RowKit Go.BigFrame

/-- The slice that starts at 'a' holds the elements 'xs', each a row of 'sz' cells. -/
def Sl {α : Type} (sz : Nat) (cs : α → List Value) (w : World) (a : Option Addr) (xs : List α) : Prop :=
  ∀ (k : Nat) (e : α), xs[k]? = some e → ∃ b off, a = some ⟨b, off, none⟩ ∧ b < w.heap.size ∧ ∀ (j : Nat) (u : Value), (cs e)[j]? = some u → w.cell? ⟨b, off + k * sz + j, none⟩ = some u

section
variable {α : Type} {sz : Nat} {cs : α → List Value} {w w' : World} {a : Option Addr} {xs : List α}

theorem Sl.nil (a : Option Addr) : Sl sz cs w a [] := fun k e h => by simp at h

theorem Sl.below {B : Nat} (h : Sl sz cs w a xs) (hb : Below B w w') (hB : w.heap.size ≤ B) : Sl sz cs w' a xs := by
  intro k e he
  obtain ⟨b, off, ha, hlt, hc⟩ := h k e he
  exact ⟨b, off, ha, Nat.lt_of_lt_of_le hlt hb.size, fun j u hu => (hb.cell (p := ⟨b, _, none⟩) (Nat.lt_of_lt_of_le hlt hB)).trans (hc j u hu)⟩

theorem Sl.keep (h : Sl sz cs w a xs) (hb : Below w.heap.size w w') : Sl sz cs w' a xs := h.below hb (Nat.le_refl _)
theorem flatMap_at (hcs : ∀ x, (cs x).length = sz) : ∀ (xs : List α) (k j : Nat) (e : α), xs[k]? = some e → j < sz → (xs.flatMap cs)[k * sz + j]? = (cs e)[j]?
  | [], k, j, e, he, _ => by simp at he
  | x :: xs, 0, j, e, he, hj => by
    simp at he; subst he
    simp only [List.flatMap_cons, Nat.zero_mul, Nat.zero_add]
    rw [List.getElem?_append_left (by rw [hcs]; exact hj)]
  | x :: xs, k + 1, j, e, he, hj => by
    simp at he
    have ih := flatMap_at hcs xs k j e he hj
    simp only [List.flatMap_cons]
    rw [List.getElem?_append_right (by rw [hcs, Nat.succ_mul]; omega), hcs, ← ih]
    congr 1
    rw [Nat.succ_mul]; omega

theorem flatMap_len (hcs : ∀ x, (cs x).length = sz) : ∀ (xs : List α), (xs.flatMap cs).length = xs.length * sz
  | [] => by simp
  | x :: xs => by simp only [List.flatMap_cons, List.length_append, List.length_cons, hcs, flatMap_len hcs xs, Nat.succ_mul]; omega

/-- A row of the call's own is such a slice. -/
theorem Sl.of_owns {base : Nat} {t : TypeId} {v : Value} {n : Nat} (hcs : ∀ x, (cs x).length = sz) (h : w.ownsRow base t sz v n (xs.flatMap cs)) (hn : xs.length = n) :
    ∃ (a : Option Addr) (cap : Nat), v = .slice a n cap ∧ n ≤ cap ∧ cap ≤ maxLen ∧ Sl sz cs w a xs := by
  obtain ⟨hl, h⟩ := h
  rcases h with ⟨rfl, h0⟩ | ⟨g, cap, cur, rfl, hb, hh, hc, hm, hs, ht⟩
  · have : xs = [] := List.length_eq_zero_iff.1 (by omega)
    subst this
    exact ⟨none, 0, by simp [h0], by omega, Nat.zero_le _, Sl.nil _⟩
  · refine ⟨some ⟨g, 0, none⟩, cap, rfl, hc, hm, ?_⟩
    intro k e he
    have hk : k < xs.length := by
      rcases Nat.lt_or_ge k xs.length with h | h
      · exact h
      · rw [List.getElem?_eq_none h] at he; simp at he
    refine ⟨g, 0, rfl, ?_, ?_⟩
    · rcases Nat.lt_or_ge g w.heap.size with h | h
      · exact h
      · rw [Array.getElem?_eq_none h] at hh; simp at hh
    · intro j u hu
      have hj : j < sz := by
        rcases Nat.lt_or_ge j sz with h | h
        · exact h
        · rw [List.getElem?_eq_none (by rw [hcs]; exact h)] at hu; simp at hu
      have h1 := flatMap_at hcs xs k j e he hj
      rw [← ht] at h1
      have hlt : k * sz + j < n * sz := by
        have : (k + 1) * sz ≤ n * sz := Nat.mul_le_mul_right _ (by omega)
        rw [Nat.succ_mul] at this; omega
      rw [List.getElem?_take_of_lt hlt, hu] at h1
      simp only [World.cell?, hh, Nat.zero_add]
      simpa using h1
end


/-! ### a slice that came in -/
structure SlArg (α : Type) where
  a : Option Addr
  cap : Nat
  xs : List α
@[reducible] def SlArg.val {α : Type} (x : SlArg α) : Value := .slice x.a x.xs.length x.cap
structure SlArg.ok {α : Type} (sz : Nat) (cs : α → List Value) (OK : α → Prop) (w : World) (x : SlArg α) : Prop where
  sl : Sl sz cs w x.a x.xs
  each : ∀ e ∈ x.xs, OK e
  le : x.xs.length ≤ x.cap
  cap : x.cap ≤ maxLen
theorem list_of {α : Type} {p : Nat → α → Prop} : ∀ (n : Nat), (∀ i, i < n → ∃ e, p i e) → ∃ xs : List α, xs.length = n ∧ ∀ i e, xs[i]? = some e → p i e
  | 0, _ => ⟨[], rfl, fun i e h => by simp at h⟩
  | n + 1, h => by
    obtain ⟨xs, hl, hx⟩ := list_of n (fun i hi => h i (by omega))
    obtain ⟨e, he⟩ := h n (by omega)
    refine ⟨xs ++ [e], by simp [hl], fun i u hu => ?_⟩
    rcases Nat.lt_trichotomy i n with hi | rfl | hi
    · rw [List.getElem?_append_left (by omega)] at hu; exact hx i u hu
    · rw [List.getElem?_append_right (by omega), hl] at hu; simp at hu; subst hu; exact he
    · rw [List.getElem?_eq_none (by simp; omega)] at hu; simp at hu
theorem sl_open {α : Type} {cks : List CK} {sz N : Nat} {cs : α → List Value} {OK : α → Prop} {w : World} {v : Value} (h : (CK.sl cks).ok w (N + 1) v) (hsz : cks.length = sz) (h0 : 0 < sz) (hcs : ∀ x, (cs x).length = sz)
    (mk : ∀ l : List Value, l.length = sz → (∀ (j : Nat) (ck : CK), cks[j]? = some ck → ∃ x, l[j]? = some x ∧ ck.ok w N x) → ∃ e : α, l = cs e ∧ OK e) :
    ∃ x : SlArg α, v = x.val ∧ x.ok sz cs OK w := by
  rcases h with rfl | ⟨a, len, cap, rfl, hl, hm, hi⟩
  · exact ⟨⟨none, 0, []⟩, rfl, ⟨Sl.nil _, fun e he => by simp at he, Nat.le_refl _, Nat.zero_le _⟩⟩
  · rw [hsz] at hi
    have key : ∀ i, i < len → ∃ e : α, OK e ∧ ∃ b off, some a = some ⟨b, off, none⟩ ∧ b < w.heap.size ∧ ∀ (j : Nat) (u : Value), (cs e)[j]? = some u → w.cell? ⟨b, off + i * sz + j, none⟩ = some u := by
      intro i hlt
      obtain ⟨b, off, spot⟩ := a
      have hsp : spot = none := by
        obtain ⟨l, hl1, hl2⟩ := hi 0 (by omega)
        obtain ⟨_, hlen, hc⟩ := World.cells?_some hl1
        have h1 := hc 0 h0
        rw [List.getElem?_eq_getElem (by omega)] at h1
        have := World.cell?_spot h1
        simpa [Addr.add] using this
      subst hsp
      obtain ⟨l, hl1, hl2⟩ := hi i hlt
      obtain ⟨_, hlen, hc⟩ := World.cells?_some hl1
      obtain ⟨e, rfl, hok⟩ := mk l hlen hl2
      have hcell : ∀ (j : Nat) (u : Value), (cs e)[j]? = some u → w.cell? ⟨b, off + i * sz + j, none⟩ = some u := by
        intro j u hu
        have hj : j < sz := by
          rcases Nat.lt_or_ge j sz with h | h
          · exact h
          · rw [List.getElem?_eq_none (by rw [hcs]; exact h)] at hu; simp at hu
        have h1 := hc j hj
        rw [hu] at h1
        rw [← h1]
        congr 1
        simp only [Addr.add]
        split <;> split <;> simp_all
      refine ⟨e, hok, b, off, rfl, ?_, hcell⟩
      exact World.block_lt_of_cell? w _ (hcell 0 _ (List.getElem?_eq_getElem (by rw [hcs]; exact h0)))
    obtain ⟨xs, hlen, hx⟩ := list_of len key
    refine ⟨⟨some a, cap, xs⟩, by simp [SlArg.val, hlen], ⟨fun k e he => (hx k e he).2, fun e he => ?_, by simp only; omega, hm⟩⟩
    obtain ⟨i, hi', rfl⟩ := List.getElem_of_mem he
    exact (hx i _ (List.getElem?_eq_getElem hi')).1

/-! ### events -/
@[reducible] def Evs := Sl 7 Ev.cs
theorem Evs.at {w : World} {a : Option Addr} {xs : List Ev} (h : Evs w a xs) {k : Nat} {e : Ev} (he : xs[k]? = some e) :
    ∃ b off, a = some ⟨b, off, none⟩ ∧ b < w.heap.size ∧ w.cell? ⟨b, off + k * 7, none⟩ = some (.int .i64 e.kind) ∧ w.cell? ⟨b, off + k * 7 + 1, none⟩ = some (.int .i64 e.field) ∧ w.cell? ⟨b, off + k * 7 + 2, none⟩ = some (.int .u64 e.bits)
      ∧ w.cell? ⟨b, off + k * 7 + 3, none⟩ = some (.int .i64 e.len) ∧ w.cell? ⟨b, off + k * 7 + 4, none⟩ = some (.string e.text) ∧ w.cell? ⟨b, off + k * 7 + 5, none⟩ = some (.int .i64 e.code) ∧ w.cell? ⟨b, off + k * 7 + 6, none⟩ = some (.int .i64 e.at_) := by
  obtain ⟨b, off, ha, hlt, hc⟩ := h k e he
  exact ⟨b, off, ha, hlt, hc 0 _ rfl, hc 1 _ rfl, hc 2 _ rfl, hc 3 _ rfl, hc 4 _ rfl, hc 5 _ rfl, hc 6 _ rfl⟩
theorem at_lt {α : Type} {xs : List α} {k : Nat} (h : k < xs.length) : ∃ e, xs[k]? = some e ∧ e ∈ xs := ⟨xs[k], List.getElem?_eq_getElem h, List.getElem_mem h⟩

/-! ### how many events of a kind -/
def many (kind : Int) (xs : List Ev) : Nat := (xs.filter fun e => e.kind == kind).length
theorem many_snoc {kind : Int} {xs : List Ev} {k : Nat} {e : Ev} (he : xs[k]? = some e) : many kind (xs.take (k + 1)) = many kind (xs.take k) + if e.kind = kind then 1 else 0 := by
  rw [List.take_add_one, he]
  simp only [many, List.filter_append, List.length_append, Option.toList_some]
  by_cases h : e.kind = kind <;> simp [List.filter_cons, h]
theorem many_le (kind : Int) (xs : List Ev) : many kind xs ≤ xs.length := List.length_filter_le _ _


/-! ### sizes of lists of events -/
def textSum (xs : List Ev) : Nat := (xs.map fun e => e.text.size).sum
def szE (n : Int) (xs : List Ev) : Int := if n < (xs.length : Int) + textSum xs then -1 else n - xs.length - textSum xs
theorem textSum_snoc {xs : List Ev} {k : Nat} {e : Ev} (he : xs[k]? = some e) : textSum (xs.take (k + 1)) = textSum (xs.take k) + e.text.size := by
  rw [List.take_add_one, he]; simp [textSum]
theorem textSum_take (xs : List Ev) (k : Nat) : textSum (xs.take k) ≤ textSum xs := by
  have : textSum xs = textSum (xs.take k) + textSum (xs.drop k) := by
    simp only [textSum, ← List.sum_append, ← List.map_append, List.take_append_drop]
  omega


/-! ### a row of the call's own, filled element by element -/
theorem owns_below {w w' : World} {B base : Nat} {e : TypeId} {size n : Nat} {v : Value} {xs : List Value} (h : w.ownsRow base e size v n xs) (hb : Below B w w') (hB : w.heap.size ≤ B) : w'.ownsRow base e size v n xs := by
  obtain ⟨hl, h⟩ := h
  refine ⟨hl, ?_⟩
  rcases h with h | ⟨g, cap, cur, hv, hg, hh, r⟩
  · exact .inl h
  · have hlt : g < w.heap.size := by
      rcases Nat.lt_or_ge g w.heap.size with h | h
      · exact h
      · rw [Array.getElem?_eq_none h] at hh; simp at hh
    exact .inr ⟨g, cap, cur, hv, hg, by rw [hb.block g (by omega)]; exact hh, r⟩
theorem owns_le {w : World} {base b' : Nat} {e : TypeId} {size n : Nat} {v : Value} {xs : List Value} (h : w.ownsRow base e size v n xs) (hb : b' ≤ base) : w.ownsRow b' e size v n xs := by
  obtain ⟨hl, h⟩ := h
  refine ⟨hl, ?_⟩
  rcases h with h | ⟨g, cap, cur, hv, hg, r⟩
  · exact .inl h
  · exact .inr ⟨g, cap, cur, hv, by omega, r⟩
theorem owns_set {w : World} {base : Nat} {e : TypeId} {size n : Nat} {v : Value} {xs : List Value} (h : w.ownsRow base e size v n xs) {p : Addr} (hp : p.block < base) (u : Value) : (w.setCell p u).ownsRow base e size v n xs := by
  obtain ⟨hl, h⟩ := h
  refine ⟨hl, ?_⟩
  rcases h with h | ⟨g, cap, cur, hv, hg, hh, r⟩
  · exact .inl h
  · exact .inr ⟨g, cap, cur, hv, hg, by rw [Below.heap_setCell w p u g (by omega)]; exact hh, r⟩
theorem owns_setRow {w : World} {base b : Nat} {e : TypeId} {size n : Nat} {v : Value} {xs : List Value} (h : w.ownsRow base e size v n xs) (hb : b < base) (cs : Array Value) : (w.setRow b cs).ownsRow base e size v n xs := by
  obtain ⟨hl, h⟩ := h
  refine ⟨hl, ?_⟩
  rcases h with h | ⟨g, cap, cur, hv, hg, hh, r⟩
  · exact .inl h
  · exact .inr ⟨g, cap, cur, hv, hg, by rw [setRow_other w b g cs (by omega)]; exact hh, r⟩
theorem own_cap {w : World} {base n cap size : Nat} {a : Option Addr} {t : TypeId} {xs : List Value} (h : w.ownsRow base t size (.slice a n cap) n xs) : n ≤ cap := by
  rcases h.2 with ⟨e, h0⟩ | ⟨g, cap', cur, e, _, _, hc, _⟩
  · omega
  · simp only [Value.slice.injEq] at e
    omega
/-- What a row of cells becomes where some cells are stored from 'o' on. -/
def setRow (L : List Value) (o : Nat) : List Value → List Value
  | [] => L
  | c :: cs => setRow (L.set o c) (o + 1) cs
theorem setRow_take : ∀ (cs : List Value) (L : List Value) (o : Nat), o + cs.length ≤ L.length → (setRow L o cs).take (o + cs.length) = L.take o ++ cs
  | [], L, o, _ => by simp [setRow]
  | c :: cs, L, o, h => by
    simp only [List.length_cons] at h
    have ih := setRow_take cs (L.set o c) (o + 1) (by simp; omega)
    simp only [setRow, List.length_cons]
    rw [show o + (cs.length + 1) = o + 1 + cs.length by omega, ih, List.take_add_one, List.take_set]
    have h1 : (L.set o c)[o]? = some c := by rw [List.getElem?_set]; simp; omega
    rw [h1]
    have h2 : (L.take o).set o c = L.take o := by rw [List.set_eq_of_length_le]; simp; omega
    rw [h2]; simp
theorem setRow_length : ∀ (cs : List Value) (L : List Value) (o : Nat), (setRow L o cs).length = L.length
  | [], L, o => rfl
  | c :: cs, L, o => by simp only [setRow]; rw [setRow_length cs]; simp
theorem filled_step {α : Type} {cs : α → List Value} {sz : Nat} (hcs : ∀ x, (cs x).length = sz) {xs : List α} {L : List Value} {k n : Nat} {e : α} (he : xs[k]? = some e) (hk : k < n) (hL : L.length = n * sz)
    (hT : L.take (k * sz) = (xs.take k).flatMap cs) : (setRow L (k * sz) (cs e)).take ((k + 1) * sz) = (xs.take (k + 1)).flatMap cs := by
  have h1 : (k + 1) * sz ≤ n * sz := Nat.mul_le_mul_right _ (by omega)
  rw [Nat.succ_mul] at h1 ⊢
  have := setRow_take (cs e) L (k * sz) (by rw [hcs, hL]; exact h1)
  rw [hcs] at this
  rw [this, hT, List.take_add_one, he]
  simp
theorem owns_some {w : World} {base g cap n size : Nat} {t : TypeId} {L : List Value} (h : w.ownsRow base t size (.slice (some ⟨g, 0, none⟩) n cap) n L) (j : Nat) (hj : j < n * size) : ∃ u, w.cell? ⟨g, j, none⟩ = some u :=
  ⟨L[j]'(by rw [h.1]; exact hj), by rw [h.cellAt j hj]; exact List.getElem?_eq_getElem _⟩
theorem owns_store_ev {w : World} {base g cap n : Nat} {t : TypeId} {L : List Value} (h : w.ownsRow base t 7 (.slice (some ⟨g, 0, none⟩) n cap) n L) (k : Nat) (e : Ev) :
    (((((((w.setCell ⟨g, k * 7, none⟩ (.int .i64 e.kind)).setCell ⟨g, k * 7 + 1, none⟩ (.int .i64 e.field)).setCell ⟨g, k * 7 + 2, none⟩ (.int .u64 e.bits)).setCell ⟨g, k * 7 + 3, none⟩ (.int .i64 e.len)).setCell ⟨g, k * 7 + 4, none⟩ (.string e.text)).setCell ⟨g, k * 7 + 5, none⟩ (.int .i64 e.code)).setCell
      ⟨g, k * 7 + 6, none⟩ (.int .i64 e.at_)).ownsRow base t 7 (.slice (some ⟨g, 0, none⟩) n cap) n (setRow L (k * 7) e.cs) := by
  have h0 := (h.stored (k * 7) (.int .i64 e.kind)).1
  have h1 := (h0.stored (k * 7 + 1) (.int .i64 e.field)).1
  have h2 := (h1.stored (k * 7 + 2) (.int .u64 e.bits)).1
  have h3 := (h2.stored (k * 7 + 3) (.int .i64 e.len)).1
  have h4 := (h3.stored (k * 7 + 4) (.string e.text)).1
  have h5 := (h4.stored (k * 7 + 5) (.int .i64 e.code)).1
  exact (h5.stored (k * 7 + 6) (.int .i64 e.at_)).1
/-- What a call hands back: a slice of n elements in memory of its own. -/
def FreshRow (w : World) (t : TypeId) (sz n : Nat) (L : List Value) (r : Ending) (w' : World) : Prop :=
  ∃ a cap, r = .returned (.slice a n cap) ∧ w'.ownsRow w.heap.size t sz (.slice a n cap) n L ∧ Below w.heap.size w w'
theorem ev_len (e : Ev) : e.cs.length = 7 := rfl

/-! ### opening a list of events -/
theorem evs_of_own {w' : World} {base n cap : Nat} {a : Option Addr} {t : TypeId} {xs : List Ev} (h : w'.ownsRow base t 7 (.slice a n cap) n (xs.flatMap Ev.cs)) (hn : xs.length = n) : Evs w' a xs := by
  obtain ⟨a', cap', e, _, _, hs⟩ := Sl.of_owns ev_len h hn
  simp only [Value.slice.injEq] at e
  rw [e.1]; exact hs
end Go.Proofs.Ytbgejldjgkihaaa

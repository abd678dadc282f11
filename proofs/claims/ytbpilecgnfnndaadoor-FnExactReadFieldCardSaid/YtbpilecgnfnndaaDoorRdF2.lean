/- Texts that ReadFieldL leans on, part 2. (Put together by wip/tools/bundle.py.) -/
import Derived.Maps.AppendAt
import Derived.Laws.AppendOwnNone
import Derived.Deep.AppendLies
import Derived.Laws.Tables
import Derived.Lib.Split
import Derived.Lib.Join
import Derived.Handed
import Derived.SizedLaws
import Derived.Test.YtbpilecgnfnndaaDoorRdF1
namespace Go.Proofs.YtbpilecgnfnndaaDoor
set_option linter.unusedSimpArgs false
set_option linter.unusedVariables false
open Go.ChangeShapes Go.WideShapes Go.ChangeAt Go.RowKit Go.BigFrame
structure Chg (lo hi : Nat) (w w' : World) : Prop where
  os : w'.os = w.os
  tape : w'.tape = w.tape
  output : w'.output = w.output
  size : w.heap.size ≤ w'.heap.size
  block : ∀ k, k < w.heap.size → (k < lo ∨ hi ≤ k) → w'.heap[k]? = w.heap[k]?
theorem Chg.refl (lo hi : Nat) (w : World) : Chg lo hi w w := ⟨rfl, rfl, rfl, Nat.le_refl _, fun _ _ _ => rfl⟩
theorem Chg.trans {lo hi : Nat} {a b c : World} (h : Chg lo hi a b) (k : Chg lo hi b c) : Chg lo hi a c :=
  ⟨k.os.trans h.os, k.tape.trans h.tape, k.output.trans h.output, Nat.le_trans h.size k.size, fun i hi' ho => (k.block i (Nat.lt_of_lt_of_le hi' h.size) ho).trans (h.block i hi' ho)⟩
theorem Chg.of_below {lo hi : Nat} {w w' : World} (h : Below w.heap.size w w') : Chg lo hi w w' := ⟨h.os, h.tape, h.output, h.size, fun k hk _ => h.block k hk⟩
theorem Chg.below {lo hi : Nat} {w w' : World} (h : Chg lo hi w w') (hl : lo ≤ w.heap.size) : Below lo w w' := ⟨h.os, h.tape, h.output, h.size, fun k hk => h.block k (by omega) (.inl hk)⟩
theorem Chg.setCell {lo hi b o : Nat} {w : World} (h1 : lo ≤ b) (h2 : b < hi) (u : Value) : Chg lo hi w (w.setCell ⟨b, o, none⟩ u) :=
  ⟨rfl, rfl, rfl, by simp [World.setCell], fun k _ hk => Below.heap_setCell w ⟨b, o, none⟩ u k (by simp only; omega)⟩
structure OwnR (w : World) (lo hi : Nat) (a : Option Addr) (n : Nat) (L : List Value) : Prop where
  len : L.length = n
  own : n = 0 ∨ ∃ g, a = some ⟨g, 0, none⟩ ∧ lo ≤ g ∧ g < hi ∧ g < w.heap.size ∧ (∀ (j : Nat) (u : Value), L[j]? = some u → w.cell? ⟨g, j, none⟩ = some u) ∧ (∀ j : Nat, w.frozen? ⟨g, j, none⟩ = false)
theorem OwnR.chg {w w' : World} {lo hi lo' hi' n : Nat} {a : Option Addr} {L : List Value} (h : OwnR w lo hi a n L) (hc : Chg lo' hi' w w') (hd : hi ≤ lo' ∨ hi' ≤ lo) : OwnR w' lo hi a n L := by
  refine ⟨h.len, ?_⟩
  rcases h.own with h0 | ⟨g, ha, h1, h2, h3, h4, h5⟩
  · exact .inl h0
  · have hb := hc.block g h3 (by omega)
    exact .inr ⟨g, ha, h1, h2, Nat.lt_of_lt_of_le h3 hc.size, fun j u hu => (World.cell?_of_block (a := ⟨g, j, none⟩) hb).trans (h4 j u hu), fun j => (World.frozen?_of_block (a := ⟨g, j, none⟩) hb).trans (h5 j)⟩
theorem OwnR.keep {w w' : World} {lo hi n : Nat} {a : Option Addr} {L : List Value} (h : OwnR w lo hi a n L) (hb : Below w.heap.size w w') : OwnR w' lo hi a n L :=
  h.chg (Chg.of_below (lo := hi) (hi := hi) hb) (.inl (Nat.le_refl _))
theorem OwnR.store {w : World} {lo hi n g j : Nat} {L : List Value} (h : OwnR w lo hi (some ⟨g, 0, none⟩) n L) (hj : j < n) (u : Value) : OwnR (w.setCell ⟨g, j, none⟩ u) lo hi (some ⟨g, 0, none⟩) n (L.set j u) := by
  refine ⟨by rw [List.length_set, h.len], ?_⟩
  rcases h.own with h0 | ⟨g', ha, h1, h2, h3, h4, h5⟩
  · omega
  · simp only [Option.some.injEq, Addr.mk.injEq, and_true] at ha
    subst ha
    refine .inr ⟨g, rfl, h1, h2, by simpa [World.setCell] using h3, fun i v hv => ?_, fun i => by rw [World.frozen?_setCell]; exact h5 i⟩
    rw [List.getElem?_set] at hv
    by_cases hij : j = i
    · subst hij
      rw [if_pos rfl, if_pos (by rw [h.len]; exact hj)] at hv
      simp only [Option.some.injEq] at hv
      subst hv
      exact World.cell?_setCell_same _ _ _ (h4 j L[j]! (by rw [List.getElem?_eq_getElem (by rw [h.len]; exact hj)]; simp [h.len, hj]))
    · rw [if_neg hij] at hv
      rw [World.cell?_setCell_other _ _ _ _ (by simp [hij])]
      exact h4 i v hv
theorem OwnR.sl {α : Type} {cs : α → List Value} {w : World} {lo hi n : Nat} {a : Option Addr} {xs : List α} (hcs : ∀ x, (cs x).length = 1) (h : OwnR w lo hi a n (xs.flatMap cs)) : Sl 1 cs w a xs := by
  intro k e he
  have hk : k < xs.length := by
    rcases Nat.lt_or_ge k xs.length with h' | h'
    · exact h'
    · rw [List.getElem?_eq_none h'] at he; simp at he
  rcases h.own with h0 | ⟨g, ha, h1, h2, h3, h4, h5⟩
  · have := h.len; rw [flatMap_len hcs] at this; omega
  · refine ⟨g, 0, ha, h3, fun j u hu => ?_⟩
    have hj : j = 0 := by
      rcases Nat.lt_or_ge j 1 with h' | h'
      · omega
      · rw [List.getElem?_eq_none (by rw [hcs]; exact h')] at hu; simp at hu
    subst hj
    have := h4 (k * 1 + 0) u (by rw [flatMap_at hcs xs k 0 e he (by omega)]; exact hu)
    simpa using this
theorem OwnR.chg1 {w w' : World} {lo hi g e n : Nat} {a : Option Addr} {L : List Value} (h : OwnR w lo hi a n L) (hc : Chg g e w w') (hd : ∀ b, a = some ⟨b, 0, none⟩ → n ≠ 0 → b < g ∨ e ≤ b) : OwnR w' lo hi a n L := by
  refine ⟨h.len, ?_⟩
  by_cases hn : n = 0
  · exact .inl hn
  rcases h.own with h0 | ⟨b, ha, h1, h2, h3, h4, h5⟩
  · exact .inl h0
  · have hb := hc.block b h3 (hd b ha hn)
    exact .inr ⟨b, ha, h1, h2, Nat.lt_of_lt_of_le h3 hc.size, fun j u hu => (World.cell?_of_block (a := ⟨b, j, none⟩) hb).trans (h4 j u hu), fun j => (World.frozen?_of_block (a := ⟨b, j, none⟩) hb).trans (h5 j)⟩
structure OwnSh (w : World) (lo hi : Nat) (a : Option Addr) (n : Nat) (rs : List ShR) (xs : List Shp) : Prop where
  le : lo ≤ hi
  len : rs.length = n
  lenx : xs.length = n
  outer : OwnR w lo hi a (n * 2) (rs.flatMap ShR.cs)
  each : ∀ (k : Nat) (r : ShR) (x : Shp), rs[k]? = some r → xs[k]? = some x → r.id = x.id ∧ r.n = x.flds.length ∧ OwnR w lo hi r.a (r.n * 5) (x.flds.flatMap Fld.cs)
  apart : ∀ (i j : Nat) (r s : ShR) (g : Nat), rs[i]? = some r → rs[j]? = some s → i ≠ j → r.n ≠ 0 → s.n ≠ 0 → r.a = some ⟨g, 0, none⟩ → s.a ≠ some ⟨g, 0, none⟩
  off : ∀ (i : Nat) (r : ShR) (g : Nat), rs[i]? = some r → r.n ≠ 0 → a = some ⟨g, 0, none⟩ → r.a ≠ some ⟨g, 0, none⟩
def ShBlk (a : Option Addr) (n : Nat) (rs : List ShR) (b : Nat) : Prop := n ≠ 0 ∧ a = some ⟨b, 0, none⟩ ∨ ∃ (i : Nat) (r : ShR), rs[i]? = some r ∧ r.n ≠ 0 ∧ r.a = some ⟨b, 0, none⟩
section
variable {w w' : World} {lo hi n : Nat} {a : Option Addr} {rs : List ShR} {xs : List Shp}
theorem OwnSh.at (h : OwnSh w lo hi a n rs xs) {k : Nat} (hk : k < n) : ∃ r x, rs[k]? = some r ∧ xs[k]? = some x :=
  ⟨_, _, List.getElem?_eq_getElem (by rw [h.len]; exact hk), List.getElem?_eq_getElem (by rw [h.lenx]; exact hk)⟩
theorem OwnSh.chgB (h : OwnSh w lo hi a n rs xs) {g e : Nat} (hc : Chg g e w w') (hd : ∀ b, ShBlk a n rs b → b < g ∨ e ≤ b) : OwnSh w' lo hi a n rs xs where
  le := h.le
  len := h.len
  lenx := h.lenx
  outer := h.outer.chg1 hc fun b hb hn => hd b (.inl ⟨by omega, hb⟩)
  each k r x hr hx := ⟨(h.each k r x hr hx).1, (h.each k r x hr hx).2.1, (h.each k r x hr hx).2.2.chg1 hc fun b hb hn => hd b (.inr ⟨k, r, hr, by omega, hb⟩)⟩
  apart := h.apart
  off := h.off
theorem OwnSh.blk (h : OwnSh w lo hi a n rs xs) {b : Nat} (hb : ShBlk a n rs b) : lo ≤ b ∧ b < hi := by
  rcases hb with ⟨hn, ha⟩ | ⟨i, r, hr, hn, ha⟩
  · rcases h.outer.own with h0 | ⟨g, hg, h1, h2, _⟩
    · omega
    · rw [hg] at ha; simp at ha; subst ha; exact ⟨h1, h2⟩
  · have hi' : i < n := by
      rcases Nat.lt_or_ge i rs.length with h' | h'
      · rw [← h.len]; exact h'
      · rw [List.getElem?_eq_none h'] at hr; simp at hr
    obtain ⟨x, hx⟩ : ∃ x, xs[i]? = some x := ⟨_, List.getElem?_eq_getElem (by rw [h.lenx]; exact hi')⟩
    rcases (h.each i r x hr hx).2.2.own with h0 | ⟨g, hg, h1, h2, _⟩
    · omega
    · rw [hg] at ha; simp at ha; subst ha; exact ⟨h1, h2⟩
theorem OwnSh.chg (h : OwnSh w lo hi a n rs xs) {lo' hi' : Nat} (hc : Chg lo' hi' w w') (hd : hi ≤ lo' ∨ hi' ≤ lo) : OwnSh w' lo hi a n rs xs :=
  h.chgB hc fun b hb => by have := h.blk hb; omega
theorem OwnSh.keep (h : OwnSh w lo hi a n rs xs) (hb : Below w.heap.size w w') : OwnSh w' lo hi a n rs xs :=
  h.chg (Chg.of_below (lo := hi) (hi := hi) hb) (.inl (Nat.le_refl _))
end
structure ChgB (P : Nat → Prop) (w w' : World) : Prop where
  os : w'.os = w.os
  tape : w'.tape = w.tape
  output : w'.output = w.output
  size : w.heap.size ≤ w'.heap.size
  block : ∀ k, k < w.heap.size → ¬ P k → w'.heap[k]? = w.heap[k]?
theorem ChgB.refl (P : Nat → Prop) (w : World) : ChgB P w w := ⟨rfl, rfl, rfl, Nat.le_refl _, fun _ _ _ => rfl⟩
theorem ChgB.trans {P : Nat → Prop} {a b c : World} (h : ChgB P a b) (k : ChgB P b c) : ChgB P a c :=
  ⟨k.os.trans h.os, k.tape.trans h.tape, k.output.trans h.output, Nat.le_trans h.size k.size, fun i hi' ho => (k.block i (Nat.lt_of_lt_of_le hi' h.size) ho).trans (h.block i hi' ho)⟩
theorem OwnR.chgB {P : Nat → Prop} {w w' : World} {lo hi n : Nat} {a : Option Addr} {L : List Value} (h : OwnR w lo hi a n L) (hc : ChgB P w w') (hd : ∀ b, a = some ⟨b, 0, none⟩ → n ≠ 0 → ¬ P b) : OwnR w' lo hi a n L := by
  refine ⟨h.len, ?_⟩
  by_cases hn : n = 0
  · exact .inl hn
  rcases h.own with h0 | ⟨b, ha, h1, h2, h3, h4, h5⟩
  · exact .inl h0
  · have hb := hc.block b h3 (hd b ha hn)
    exact .inr ⟨b, ha, h1, h2, Nat.lt_of_lt_of_le h3 hc.size, fun j u hu => (World.cell?_of_block (a := ⟨b, j, none⟩) hb).trans (h4 j u hu), fun j => (World.frozen?_of_block (a := ⟨b, j, none⟩) hb).trans (h5 j)⟩
def SameR (rs rs' : List ShR) : Prop := ∀ (i : Nat) (r' : ShR), rs'[i]? = some r' → ∃ r, rs[i]? = some r ∧ r'.a = r.a ∧ r'.n = r.n
theorem SameR.refl (rs : List ShR) : SameR rs rs := fun i r h => ⟨r, h, rfl, rfl⟩
theorem SameR.blk {rs rs' : List ShR} (h : SameR rs rs') {a : Option Addr} {n b : Nat} (hb : ShBlk a n rs' b) : ShBlk a n rs b := by
  rcases hb with hb | ⟨i, r, hr, hn, ha⟩
  · exact .inl hb
  · obtain ⟨r0, h0, h1, h2⟩ := h i r hr
    exact .inr ⟨i, r0, h0, by omega, by rw [← h1]; exact ha⟩
theorem SameR.set {rs rs' : List ShR} (h : SameR rs rs') {k : Nat} {r : ShR} (hr : rs'[k]? = some r) (q : Int) : SameR rs (rs'.set k ⟨q, r.a, r.n, r.cap⟩) := by
  intro i s hs
  rw [List.getElem?_set] at hs
  by_cases hik : k = i
  · subst hik
    rw [if_pos rfl] at hs
    split at hs
    · simp at hs; subst hs
      obtain ⟨r0, h0, h1, h2⟩ := h k r hr
      exact ⟨r0, h0, h1, h2⟩
    · simp at hs
  · rw [if_neg hik] at hs
    exact h i s hs
def ShsC (w : World) (a : Option Addr) (xs : List Shp) : Prop :=
  ∀ (k : Nat) (x : Shp), xs[k]? = some x → ∃ b off a' cap', a = some ⟨b, off, none⟩ ∧ b < w.heap.size ∧ w.cell? ⟨b, off + k * 2, none⟩ = some (.int .i64 x.id) ∧ w.cell? ⟨b, off + k * 2 + 1, none⟩ = some (.slice a' x.flds.length cap') ∧ Flds w a' x.flds ∧ (a' = none → cap' = 0)
theorem ShsC.keep {w w' : World} {a : Option Addr} {xs : List Shp} (h : ShsC w a xs) (hb : Below w.heap.size w w') : ShsC w' a xs := fun k x hx => by
  obtain ⟨b, off, a', cap', h1, h2, h3, h4, h5, h6⟩ := h k x hx
  exact ⟨b, off, a', cap', h1, Nat.lt_of_lt_of_le h2 hb.size, (hb.cell (p := ⟨b, _, none⟩) h2).trans h3, (hb.cell (p := ⟨b, _, none⟩) h2).trans h4, Sl.keep h5 hb, h6⟩
theorem OwnShs.nil (w : World) (base : Nat) (T TF : TypeId) : OwnShs w base T TF (.slice none 0 0) 0 [] [] :=
  ⟨rfl, rfl, World.ownsRow_nil _ _ _ _, fun k r x h => by simp at h, Apart.nil⟩
section
variable {P : Program} {ops : Array Oper} {Q : Exit → Act → World → Prop} {md : Region.Mode} {S : World → Prop} {D : Nat → Bool}
end
def Cells (l : List (Addr × Value)) (w : World) : Prop := ∀ q ∈ l, w.cell? q.1 = some q.2
theorem cell_alloc {w : World} {p : Addr} {v : Value} (o : Obj) (h : w.cell? p = some v) : (w.alloc o).cell? p = some v := by rw [World.cell?_alloc_some w p o (by rw [h]; rfl)]; exact h
theorem Cells.drew {l : List (Addr × Value)} {w : World} (h : Cells l w) : Cells l w.drew := fun q hq => h q hq
theorem Cells.alloc {l : List (Addr × Value)} {w : World} (h : Cells l w) (o : Obj) : Cells l (w.alloc o) := fun q hq => cell_alloc o (h q hq)
theorem Cells.below {l : List (Addr × Value)} {w w' : World} (h : Cells l w) (hb : Below w.heap.size w w') : Cells l w' := fun q hq => (hb.cell (World.block_lt_of_cell? w _ (h q hq))).trans (h q hq)
theorem OwnShs.alloc {w : World} {base n : Nat} {T TF : TypeId} {v : Value} {rs : List ShR} {xs : List Shp} (h : OwnShs w base T TF v n rs xs) (o : Obj) : OwnShs (w.alloc o) base T TF v n rs xs := OwnShs.below h (Below.refl _ _ |>.alloc (Nat.le_refl _) o) (Nat.le_refl _)
theorem RowIs.alloc {w : World} {base : Nat} {TF : TypeId} {r : ShR} {x : Shp} (h : RowIs w base TF r x) (o : Obj) : RowIs (w.alloc o) base TF r x := ⟨h.1, h.2.1, h.2.2.alloc o⟩
theorem OwnShs.drew {w : World} {base n : Nat} {T TF : TypeId} {v : Value} {rs : List ShR} {xs : List Shp} (h : OwnShs w base T TF v n rs xs) : OwnShs w.drew base T TF v n rs xs := OwnShs.below h (Below.refl _ _).drew (Nat.le_refl _)
theorem below_grown {B : Nat} {w0 w w' : World} {row : Option Nat} (hb : Below B w0 w) (hg : w.grownBy w' row) (hr : ∀ g, row = some g → B ≤ g) (hB : B ≤ w.heap.size) : Below B w0 w' :=
  hb.trans ⟨hg.os, hg.tape, hg.output, hg.size, fun k hk => hg.block k (by omega) (fun e => by have := hr k e.symm; omega)⟩
def partsL (c : UInt8) : List UInt8 → List (List UInt8)
  | [] => [[]]
  | b :: r => if b = c then [] :: partsL c r else match partsL c r with
    | [] => [[b]]
    | w :: ws => (b :: w) :: ws
theorem partsL_ne (c : UInt8) : ∀ l, partsL c l ≠ []
  | [] => by simp [partsL]
  | b :: r => by
    unfold partsL
    split
    · simp
    · split <;> simp
theorem partsL_free {c : UInt8} : ∀ {l : List UInt8}, (∀ b ∈ l, b ≠ c) → partsL c l = [l]
  | [], _ => rfl
  | b :: r, h => by
    rw [partsL, if_neg (h b (List.mem_cons_self ..)), partsL_free fun x hx => h x (List.mem_cons_of_mem _ hx)]
theorem partsL_cut {c : UInt8} : ∀ {a r : List UInt8}, (∀ b ∈ a, b ≠ c) → partsL c (a ++ c :: r) = a :: partsL c r
  | [], r, _ => by simp [partsL]
  | b :: a, r, h => by
    rw [List.cons_append, partsL, if_neg (h b (List.mem_cons_self ..)), partsL_cut fun x hx => h x (List.mem_cons_of_mem _ hx)]
theorem partsL_len (c : UInt8) : ∀ l, (partsL c l).length ≤ l.length + 1
  | [] => by simp [partsL]
  | b :: r => by
    have := partsL_len c r
    unfold partsL
    split
    · simp; omega
    · split
      · simp
      · rename_i w ws h; rw [h] at this; simp at this ⊢; omega
theorem join_cons2 (x y : List UInt8) (r : List (List UInt8)) (c : UInt8) : Lib.join (x :: y :: r) [c] = x ++ c :: Lib.join (y :: r) [c] := by
  rw [Lib.join_cons, Lib.join_cons]
  simp [Lib.joinTail]
theorem partsL_join {c : UInt8} : ∀ {ws : List (List UInt8)}, ws ≠ [] → (∀ w ∈ ws, ∀ b ∈ w, b ≠ c) → partsL c (Lib.join ws [c]) = ws
  | [], h, _ => absurd rfl h
  | [x], _, h => by rw [Lib.join_one]; exact partsL_free (h x (List.mem_cons_self ..))
  | x :: y :: r, _, h => by
    rw [join_cons2, partsL_cut (h x (List.mem_cons_self ..)), partsL_join (by simp) fun w hw => h w (List.mem_cons_of_mem _ hw)]
theorem index_free {c : UInt8} : ∀ {l : List UInt8}, (∀ b ∈ l, b ≠ c) → Lib.index l [c] = -1
  | [], _ => rfl
  | b :: r, h => by
    have hb := h b (List.mem_cons_self ..)
    have ih := index_free fun x hx => h x (List.mem_cons_of_mem _ hx)
    rw [Lib.index, if_neg (by simp [List.isPrefixOf]; exact fun e => hb e.symm), ih]; try rfl
theorem index_cut {c : UInt8} : ∀ {a r : List UInt8}, (∀ b ∈ a, b ≠ c) → Lib.index (a ++ c :: r) [c] = a.length
  | [], r, _ => by simp [Lib.index, List.isPrefixOf]
  | b :: a, r, h => by
    have hb := h b (List.mem_cons_self ..)
    have ih := index_cut (r := r) fun x hx => h x (List.mem_cons_of_mem _ hx)
    rw [List.cons_append, Lib.index, if_neg (by simp [List.isPrefixOf]; exact fun e => hb e.symm), ih, if_neg (by first | (simp; done) | (simp; omega))]
    try simp
theorem splitK_join {c : UInt8} : ∀ {ws : List (List UInt8)} {k : Nat}, ws ≠ [] → ws.length ≤ k + 1 → (∀ w ∈ ws, ∀ b ∈ w, b ≠ c) → Lib.splitK [c] 0 k (Lib.join ws [c]) = ws
  | [], k, h, _, _ => absurd rfl h
  | [x], 0, _, _, h => by rw [Lib.join_one]; rfl
  | [x], k + 1, _, _, h => by
    rw [Lib.join_one, Lib.splitK, index_free (h x (List.mem_cons_self ..)), if_pos (by rfl)]
  | x :: y :: r, 0, _, hl, h => by simp at hl
  | x :: y :: r, k + 1, _, hl, h => by
    have hx := h x (List.mem_cons_self ..)
    rw [join_cons2, Lib.splitK, index_cut hx, if_neg (by first | (simp; done) | (simp; omega))]
    have e1 : (((x.length : Nat) : Int).toNat + 0) = x.length := by simp
    have e2 : (((x.length : Nat) : Int).toNat + [c].length) = x.length + 1 := by simp
    rw [e1, e2, List.take_left, List.drop_append, List.drop_of_length_le (by omega), List.nil_append, show x.length + 1 - x.length = 1 by omega, List.drop_one, List.tail_cons]
    rw [splitK_join (by simp) (by simp at hl ⊢; omega) fun w hw => h w (List.mem_cons_of_mem _ hw)]
theorem parts_hit {c : UInt8} {l : List UInt8} {f k : Nat} (hf : f ≤ k) (hk : l[k]? = some c) (hfree : ∀ b ∈ (l.drop f).take (k - f), b ≠ c) : partsL c (l.drop f) = (l.drop f).take (k - f) :: partsL c (l.drop (k + 1)) := by
  have hlt := (List.getElem?_eq_some_iff.1 hk).1
  have e : l.drop f = (l.drop f).take (k - f) ++ c :: l.drop (k + 1) := by
    conv => lhs; rw [← List.take_append_drop (k - f) (l.drop f)]
    rw [List.drop_drop, show f + (k - f) = k by omega]
    congr 1
    rw [List.drop_eq_getElem_cons hlt]
    congr 1
    have := List.getElem?_eq_getElem hlt
    rw [hk] at this
    exact (Option.some.inj this).symm
  conv => lhs; rw [e]
  exact partsL_cut hfree
theorem free_snoc {c b : UInt8} {l : List UInt8} {f k : Nat} (hf : f ≤ k) (hk : l[k]? = some b) (hb : b ≠ c) (hfree : ∀ x ∈ (l.drop f).take (k - f), x ≠ c) : ∀ x ∈ (l.drop f).take (k + 1 - f), x ≠ c := by
  rw [show k + 1 - f = (k - f) + 1 by omega, List.take_add_one, List.getElem?_drop, show f + (k - f) = k by omega, hk]
  intro x hx
  rcases List.mem_append.1 hx with h | h
  · exact hfree x h
  · simp at h; subst h; exact hb
theorem info_strP : (Tryd.prog.info? 9).map (fun i => (i.zero, i.size, i.bytes)) = some (some (.string ByteArray.empty), 1, 16) := by kernel_rfl
@[reducible] def strRowP (L : List (List UInt8)) : List Value := L.map fun l => .string (sB l)
theorem extract_bL (s : ByteArray) (a b : Nat) : bL (s.extract a b) = ((bL s).drop a).take (b - a) := by
  simp [bL, ByteArray.data_extract, List.extract_eq_take_drop]
def FreshStrs (w : World) (L : List (List UInt8)) (r : Ending) (w' : World) : Prop :=
  ∃ g cap, r = .returned (.slice (some ⟨g, 0, none⟩) L.length cap) ∧ w'.ownsRow w.heap.size 9 1 (.slice (some ⟨g, 0, none⟩) L.length cap) L.length (strRowP L) ∧ Below w.heap.size w w'
set_option maxRecDepth 100000 in
set_option maxHeartbeats 8000000 in
theorem specParts_any (s : ByteArray) (c : UInt8) (C : Int) (w : World) (hC : C = c.toNat) (hs : s.size ≤ 1048576) :
    Calls Tryd.prog 36 #[.string s, .int .u8 C] w (FreshStrs w (partsL c (bL s))) := by
  obtain ⟨iS, hiS, hs0, hs1, hs2⟩ := info_parts info_strP
  obtain ⟨PL, hPL⟩ : ∃ PL, partsL c (bL s) = PL := ⟨_, rfl⟩
  have hPn : PL ≠ [] := by rw [← hPL]; exact partsL_ne c _
  rw [hPL]
  have HPL := Lib.hid hPL; clear hPL
  subst hC
  obtain ⟨cn, hcn⟩ : ∃ cn, c.toNat = cn := ⟨_, rfl⟩
  rw [hcn]
  have HCN := Lib.hid hcn; clear hcn
  go_enter Tryd.func36, Tryd.ntmps36
  go_wp2_with fail
  go_loopw [5, 6, 7] (fun v fv i wr => ∃ (f k : Nat) (D : List (List UInt8)), f ≤ k ∧ k ≤ s.size + 1 ∧ D.length ≤ k ∧ i = .int .i64 k ∧ fv = .int .i64 f ∧ wr.ownsRow w.heap.size 9 1 v D.length (strRowP D) ∧ Hid ((k ≤ s.size ∧ PL = D ++ partsL c ((bL s).drop f) ∧ ∀ x ∈ ((bL s).drop f).take (k - f), x ≠ c) ∨ (k = s.size + 1 ∧ PL = D)) ∧ Below w.heap.size w wr) (fun _ _ i _ => s.size + 1 - (intOf i).toNat)
  case atStart => exact ⟨0, 0, [], Nat.le_refl _, by omega, Nat.le_refl _, rfl, rfl, ⟨by simp [strRowP], .inr ⟨w.heap.size, 0, #[], rfl, Nat.le_refl _, heap_nth0 w _, Nat.le_refl _, Nat.zero_le _, rfl, rfl⟩⟩, Lib.hid (.inl ⟨by omega, by simpa using HPL.out.symm, by simp⟩), by ((repeat (first | (with_reducible exact Below.refl _ _) | (with_reducible assumption) | (with_reducible refine Below.alloc ?_ ?_ _) | (with_reducible refine Below.setCell ?_ ?_ _) | (with_reducible refine Below.drew ?_) | (with_reducible refine below_setRow ?_ ?_ _) | (refine Below.trans ?_ (Below.mono (by assumption) ?_)))); all_goals (first | omega | (simp; done) | (simp; omega)))⟩
  case round =>
    obtain ⟨f, k, D, hfk, hk, hDk, rfl, rfl, ho, HR, hb⟩ := hrel
    have hz := hb.size
    have HO := Lib.hid ho; clear ho
    by_cases hle : k ≤ s.size
    · have hR : PL = D ++ partsL c ((bL s).drop f) ∧ ∀ x ∈ ((bL s).drop f).take (k - f), x ≠ c := by
        rcases HR.out with h | h
        · exact h.2
        · omega
      obtain ⟨hR1, hR2⟩ := hR
      have HR1 := Lib.hid hR1; have HR2 := Lib.hid hR2; clear hR1 hR2 HR
      by_cases hend : k = s.size
      · have hext : bL (s.extract f k) = (bL s).drop f := by rw [extract_bL, List.take_of_length_le (by rw [List.length_drop, bL_len]; omega)]
        have hnew : PL = D ++ [bL (s.extract f k)] := by
          rw [HR1.out, hext, partsL_free]
          have := HR2.out
          rwa [List.take_of_length_le (by rw [List.length_drop, bL_len]; omega)] at this
        subst hend
        obtain ⟨E, hE⟩ : ∃ E, s.extract f s.size = E := ⟨_, rfl⟩
        rw [hE] at hnew
        have HNEW := Lib.hid hnew; clear hnew hext
        have hsb : E = sB (bL E) := str_of_bL E
        have HSB := Lib.hid hsb; clear hsb
        have HA := Lib.hid (World.ownsRow.alloc HO.out (.cells #[.string E] 9 (0, 0)))
        go_wp2_with (first | (at_builtin; refine wpList_append_lies _ rfl _ _ 53 rfl w.heap.size 9 iS _ 1 16 Tryd.underlying53 hiS hs0 hs1 hs2 rfl (by decide) _ D.length (strRowP D) rfl HA.out ⟨wr.heap.size, 0, none⟩ 1 1 [.string E] rfl rfl (World.news_of_block (cs := #[.string E]) (t := 9) (fr := (0, 0)) (hset_new rfl)) (by simp [Value.oneCell']) (by omega) (by unfold maxLen; omega) (by omega) (by simp; omega) _ rfl ?_; intro gn capn w11 hown11 hgr11 hat11 hlt11; have hgb : Below w.heap.size wr w11 := below_grown ((Below.refl _ _).alloc (by omega) _) hgr11 (fun b e => (HA.out.lt b e).1) (by simp; omega); have HO11 := Lib.hid hown11; clear hown11 hgr11 hat11))
        have hrow : strRowP D ++ [.string E] = strRowP (D ++ [bL E]) := by rw [strRowP, strRowP, List.map_append, List.map_cons, List.map_nil, ← HSB.out]
        have hDl : (D ++ [bL E]).length = D.length + 1 := by simp
        rw [hrow] at HO11
        go_roundw
        case rel => exact ⟨s.size + 1, s.size + 1, D ++ [bL E], Nat.le_refl _, by omega, by rw [hDl]; omega, by go_num, by go_num, (by rw [hDl]; exact HO11.out), Lib.hid (.inr ⟨rfl, HNEW.out⟩), hb.trans (hgb.mono (Nat.le_refl _))⟩
        case measure => first | (simp [intOf]; done) | (simp [intOf]; omega)
      · have hlt : k < s.size := by omega
        have hat := bL_at hlt
        obtain ⟨bv, hbv⟩ : ∃ bv : Nat, (s[k]'hlt).toNat = bv := ⟨_, rfl⟩
        have hke : ¬ k = s.size := hend
        by_cases hbc : bv = cn
        · have hc : s[k]'hlt = c := UInt8.toNat_inj.1 (by rw [hbv, hbc, HCN.out])
          rw [hc] at hat
          have hnew : PL = D ++ [bL (s.extract f k)] ++ partsL c ((bL s).drop (k + 1)) := by
            rw [HR1.out, parts_hit hfk hat HR2.out, extract_bL]; simp
          subst hbc
          obtain ⟨E, hE⟩ : ∃ E, s.extract f k = E := ⟨_, rfl⟩
          rw [hE] at hnew
          have HNEW := Lib.hid hnew; clear hnew hat hc
          have hsb : E = sB (bL E) := str_of_bL E
          have HSB := Lib.hid hsb; clear hsb
          have HA := Lib.hid (World.ownsRow.alloc HO.out (.cells #[.string E] 9 (0, 0)))
          go_wp2_with (first | (at_builtin; refine wpList_append_lies _ rfl _ _ 53 rfl w.heap.size 9 iS _ 1 16 Tryd.underlying53 hiS hs0 hs1 hs2 rfl (by decide) _ D.length (strRowP D) rfl HA.out ⟨wr.heap.size, 0, none⟩ 1 1 [.string E] rfl rfl (World.news_of_block (cs := #[.string E]) (t := 9) (fr := (0, 0)) (hset_new rfl)) (by simp [Value.oneCell']) (by omega) (by unfold maxLen; omega) (by omega) (by simp; omega) _ rfl ?_; intro gn capn w11 hown11 hgr11 hat11 hlt11; have hgb : Below w.heap.size wr w11 := below_grown ((Below.refl _ _).alloc (by omega) _) hgr11 (fun b e => (HA.out.lt b e).1) (by simp; omega); have HO11 := Lib.hid hown11; clear hown11 hgr11 hat11))
          have hrow : strRowP D ++ [.string E] = strRowP (D ++ [bL E]) := by rw [strRowP, strRowP, List.map_append, List.map_cons, List.map_nil, ← HSB.out]
          have hDl : (D ++ [bL E]).length = D.length + 1 := by simp
          rw [hrow] at HO11
          go_roundw
          case rel => exact ⟨k + 1, k + 1, D ++ [bL E], Nat.le_refl _, by omega, by rw [hDl]; omega, by go_num, by go_num, (by rw [hDl]; exact HO11.out), Lib.hid (.inl ⟨by omega, HNEW.out, by simp⟩), hb.trans (hgb.mono (Nat.le_refl _))⟩
          case measure => first | (simp [intOf]; done) | (simp [intOf]; omega)
        · have hc : s[k]'hlt ≠ c := fun e => hbc (by rw [← hbv, e, HCN.out])
          have hfr := free_snoc hfk hat hc HR2.out
          have HFR := Lib.hid hfr; clear hfr hat hc
          have hbc1 : ((bv : Int) == (cn : Int)) = false := by rw [beq_eq_false_iff_ne]; omega
          have hbc2 : (bv == cn) = false := by simpa using hbc
          go_wp2_with fail
          go_roundw
          case rel => exact ⟨f, k + 1, D, by omega, by omega, by omega, by go_num, rfl, HO.out, Lib.hid (.inl ⟨by omega, HR1.out, HFR.out⟩), hb⟩
          case measure => first | (simp [intOf]; done) | (simp [intOf]; omega)
    · have hR : PL = D := by
        rcases HR.out with h | h
        · omega
        · exact h.2
      subst hR
      have hDn : 0 < PL.length := List.length_pos_iff.2 hPn
      obtain ⟨g, cap, e, hg, hgl⟩ := HO.out.form hDn
      subst e
      go_wp2_with fail
      go_ret
      exact ⟨g, cap, rfl, HO.out, hb⟩
def repW : List UInt8 := [114, 101, 112, 101, 97, 116, 101, 100]
def packW : List UInt8 := [112, 97, 99, 107, 101, 100]
def kf (w : List UInt8) : Nat → Int → Int
  | 0, k0 => k0
  | j + 1, k0 => if w = kindL (j + 1 : Nat) then (j + 1 : Nat) else kf w j k0
def numD (w : List UInt8) : Int := ((numUpto 999999999 w).getD 0 : Nat)
def stepS (f : Fld) (w : List UInt8) : Fld := ⟨f.number, kf w 8 f.kind, f.rep || decide (w = repW), f.packed || decide (w = packW), match numUpto 999999999 w with | some v => (v : Int) | none => f.msg⟩
def specP (ws : List (List UInt8)) : Fld := (ws.drop 1).foldl stepS ⟨numD (ws.headD []), 0, false, false, 0⟩
@[reducible] def zeroR : Fld := ⟨0, 0, false, false, 0⟩
def readS (l : List UInt8) : Fld × Bool := if l.length = 0 ∨ 60 < l.length then (zeroR, false) else if fieldL (specP (partsL 32 l)) = l then (specP (partsL 32 l), true) else (zeroR, false)
theorem foldl_snocS {ws : List (List UInt8)} {j : Nat} {x : List UInt8} {f0 : Fld} (hx : ws[j]? = some x) : (ws.take (j + 1)).foldl stepS f0 = stepS ((ws.take j).foldl stepS f0) x := by
  rw [List.take_add_one, hx, List.foldl_append]; rfl
@[reducible] def fcs (f : Fld) : Array Value := #[.int .i64 f.number, .int .i64 f.kind, .bool f.rep, .bool f.packed, .int .i64 f.msg]
theorem fbox_set {w : World} {F o : Nat} {f f' : Fld} {T : TypeId} {u : Value} (h : w.heap[F]? = some (.cells (fcs f) T (0, 0))) (e : (fcs f).setIfInBounds o u = fcs f') : (w.setCell ⟨F, o, none⟩ u).heap[F]? = some (.cells (fcs f') T (0, 0)) := by
  apply hset_eq (hset_set h); exact e
theorem fbox_cells {w : World} {F : Nat} {f : Fld} {T : TypeId} (h : w.heap[F]? = some (.cells (fcs f) T (0, 0))) : w.cell? ⟨F, 0, none⟩ = some (.int .i64 f.number) ∧ w.cell? ⟨F, 1, none⟩ = some (.int .i64 f.kind) ∧ w.cell? ⟨F, 2, none⟩ = some (.bool f.rep) ∧ w.cell? ⟨F, 3, none⟩ = some (.bool f.packed) ∧ w.cell? ⟨F, 4, none⟩ = some (.int .i64 f.msg) ∧ ∀ j, w.frozen? ⟨F, j, none⟩ = false :=
  ⟨box_cells h 0, box_cells h 1, box_cells h 2, box_cells h 3, box_cells h 4, box_frozen h⟩
theorem own_cell {w : World} {base n cap g : Nat} {t : TypeId} {L : List (List UInt8)} {j : Nat} {l : List UInt8} (h : w.ownsRow base t 1 (.slice (some ⟨g, 0, none⟩) n cap) n (strRowP L)) (hj : L[j]? = some l) : w.cell? ⟨g, j, none⟩ = some (.string (sB l)) := by
  have := h.cells (g := g) rfl j (.string (sB l)) (by rw [strRowP, List.getElem?_map, hj]; rfl)
  by_cases h0 : j = 0
  · subst h0; simpa [Addr.add] using this
  · simpa [Addr.add, h0] using this
set_option maxRecDepth 100000 in
set_option maxHeartbeats 8000000 in
theorem specReadField_any (s : ByteArray) (w : World) (hs : s.size ≤ 1048576) :
    Calls Tryd.prog 15 #[.string s] w fun r w' => r = .returned (.tuple #[(readS (bL s)).1.val, .bool (readS (bL s)).2]) ∧ Below w.heap.size w w' := by
  obtain ⟨⟨RF, RB⟩, hR⟩ : ∃ R, readS (bL s) = R := ⟨_, rfl⟩
  rw [hR]
  have HR := Lib.hid hR; clear hR
  by_cases hsz : s.size = 0 ∨ 60 < s.size
  · have hz : (RF, RB) = (zeroR, false) := by rw [← HR.out, readS, bL_len, if_pos hsz]
    simp only [Prod.mk.injEq] at hz
    obtain ⟨rfl, rfl⟩ := hz
    by_cases h0 : s.size = 0
    · have hse : s.toList = [] := by rw [ByteArray.toList_eq]; exact List.length_eq_zero_iff.1 (by rw [Array.length_toList]; exact h0)
      clear hsz HR
      go_enter Tryd.func15, Tryd.ntmps15
      go_wp2_with fail
      refine bodyPost_ret (v := .tuple #[zeroR.val, .bool false]) (by simp [results, Tryd.results15, go_sem, zeroR]) rfl ⟨rfl, by ((repeat (first | (with_reducible exact Below.refl _ _) | (with_reducible assumption) | (with_reducible refine Below.alloc ?_ ?_ _) | (with_reducible refine Below.setCell ?_ ?_ _) | (with_reducible refine Below.drew ?_) | (with_reducible refine below_setRow ?_ ?_ _) | (refine Below.trans ?_ (Below.mono (by assumption) ?_)))); all_goals (first | omega | (simp; done) | (simp; omega)))⟩
    · have h60 : 60 < s.size := by omega
      have hse : ¬ s.toList = [] := by
        rw [ByteArray.toList_eq]; intro e
        have := congrArg List.length e
        rw [Array.length_toList] at this
        exact h0 this
      have hse2 : s.toList.isEmpty = false := by simpa using hse
      have h60i : (60 : Int) < s.size := by omega
      clear hsz HR h0
      go_enter Tryd.func15, Tryd.ntmps15
      go_wp2_with fail
      refine bodyPost_ret (v := .tuple #[zeroR.val, .bool false]) (by simp [results, Tryd.results15, go_sem, zeroR]) rfl ⟨rfl, by ((repeat (first | (with_reducible exact Below.refl _ _) | (with_reducible assumption) | (with_reducible refine Below.alloc ?_ ?_ _) | (with_reducible refine Below.setCell ?_ ?_ _) | (with_reducible refine Below.drew ?_) | (with_reducible refine below_setRow ?_ ?_ _) | (refine Below.trans ?_ (Below.mono (by assumption) ?_)))); all_goals (first | omega | (simp; done) | (simp; omega)))⟩
  · have h60 : ¬ 60 < s.size := by omega
    have h0 : ¬ s.size = 0 := by omega
    have hse : ¬ s.toList = [] := by
      rw [ByteArray.toList_eq]; intro e
      have := congrArg List.length e
      rw [Array.length_toList] at this
      exact h0 this
    have hse2 : s.toList.isEmpty = false := by simpa using hse
    have h60i : ¬ (60 : Int) < s.size := by omega
    obtain ⟨ws, hws⟩ : ∃ ws, partsL 32 (bL s) = ws := ⟨_, rfl⟩
    have hwn : ws ≠ [] := by rw [← hws]; exact partsL_ne _ _
    have hwl : ws.length ≤ 61 := by rw [← hws]; have := partsL_len 32 (bL s); rw [bL_len] at this; omega
    have hRR : (RF, RB) = if fieldL (specP ws) = bL s then (specP ws, true) else (zeroR, false) := by rw [← HR.out, readS, bL_len, if_neg hsz, hws]
    have HRR := Lib.hid hRR; clear hRR HR hsz
    have hparts : ∀ W : World, Calls Tryd.prog 36 #[.string s, .int .u8 32] W (FreshStrs W ws) := fun W => by
      have := specParts_any s 32 32 W (by decide) hs
      rw [hws] at this; exact this
    clear hws h0
    go_enter Tryd.func15, Tryd.ntmps15
    go_wp2_with fail
    refine (hparts _).mono ?_
    rintro r w1 ⟨g, cap, rfl, ho, hb1⟩
    obtain ⟨x0, wr0, rfl⟩ : ∃ x0 r, ws = x0 :: r := by
      cases ws with
      | nil => exact absurd rfl hwn
      | cons x r => exact ⟨x, r, rfl⟩
    have hz1 := hb1.size
    simp only [World.size_alloc] at hz1
    have hgl := (ho.lt g rfl).2
    have hg1 := (ho.lt g rfl).1
    simp only [World.size_alloc] at hg1
    have hRes := (hb1.block w.heap.size (by simp)).trans (hset_new (o := .cells (fcs zeroR) 25 (0, 0)) rfl)
    have HO := Lib.hid ho; have HRes := Lib.hid hRes; clear ho hRes hparts
    have hT1 : Below w.heap.size w w1 := ((Below.refl _ _).alloc (Nat.le_refl _) _).trans (hb1.mono (by simp))
    have q0 := own_cell HO.out (j := 0) (l := x0) rfl
    have hnum : ∀ (x : List UInt8) (W : World), Calls Tryd.prog 37 #[.string ⟨x.toArray⟩] W fun r w' => r = .returned (.tuple #[.int .i64 (numD x), .bool (numUpto 999999999 x).isSome]) ∧ Below W.heap.size W w' := fun x W => specNumber_any ⟨x.toArray⟩ W
    have hwl' : wr0.length ≤ 60 := by simp at hwl; omega
    obtain ⟨F, hFe⟩ : ∃ F, w1.heap.size = F := ⟨_, rfl⟩
    have hgF : g < F := by omega
    obtain ⟨N0, hN0⟩ : ∃ N0, numD x0 = N0 := ⟨_, rfl⟩
    have hn0 := fun W => hnum x0 W
    rw [hN0] at hn0
    go_wp2_with fail
    refine (hn0 _).mono ?_
    rintro r w4 ⟨rfl, hb4⟩
    have hz4 := hb4.size
    simp only [World.size_alloc] at hz4
    have hF4 := (hb4.block w1.heap.size (by simp)).trans (hset_new (o := .cells (fcs zeroR) 25 (0, 0)) rfl)
    have hB4 : Below w1.heap.size w1 w4 := ((Below.refl _ _).alloc (Nat.le_refl _) _).trans (hb4.mono (by simp))
    rw [hFe] at hF4 hB4 hz4 hgl
    obtain ⟨c0, c1, c2, c3, c4, fz⟩ := fbox_cells hF4
    have HF4 := Lib.hid hF4
    simp only [hFe]
    clear hF4 hb4 hn0 q0
    go_wp2_with fail
    go_loopw [6] (fun i wr => ∃ j : Nat, j ≤ wr0.length ∧ i = .int .i64 (j + 1) ∧ (∃ f : Fld, wr.heap[F]? = some (.cells (fcs f) 25 (0, 0)) ∧ Hid (f = (wr0.take j).foldl stepS ⟨N0, 0, false, false, 0⟩)) ∧ Below F w1 wr) (fun i _ => wr0.length + 1 - (intOf i).toNat)
    case atStart => exact ⟨0, Nat.zero_le _, rfl, ⟨⟨N0, 0, false, false, 0⟩, fbox_set HF4.out rfl, Lib.hid rfl⟩, hB4.setCell (Nat.le_refl _) _⟩
    case round =>
      clear c0 c1 c2 c3 c4 fz
      obtain ⟨j, hj, rfl, ⟨f, hF, HFo⟩, hb⟩ := hrel
      have HF := Lib.hid hF; clear hF
      by_cases hlt : j < wr0.length
      · obtain ⟨x, hx, _⟩ := at_lt (xs := wr0) (k := j) hlt
        have hrow : ∀ W, Below F w1 W → W.cell? ⟨g, j + 1, none⟩ = some (.string ⟨x.toArray⟩) := fun W hW => (World.cell?_of_block (a := ⟨g, j + 1, none⟩) (hW.block g hgl)).trans (own_cell HO.out (j := j + 1) (by rw [List.getElem?_cons_succ]; exact hx))
        have HFn := Lib.hid (foldl_snocS (f0 := ⟨N0, 0, false, false, 0⟩) hx)
        rw [← HFo.out] at HFn
        have hlc : (j : Int) + 1 < ((x0 :: wr0).length : Int) := by simp; omega
        have hlc2 : (j : Int) + 1 < (wr0.length : Int) + 1 := by omega
        clear hx
        go_wp2_with fail
        go_loopw [7] (fun kv wi => ∃ k : Nat, k ≤ 8 ∧ kv = .int .i64 (k + 1) ∧ wi.heap[F]? = some (.cells (fcs ⟨f.number, kf x k f.kind, f.rep, f.packed, f.msg⟩) 25 (0, 0)) ∧ Below F w1 wi) (fun kv _ => 9 - (intOf kv).toNat)
        case atStart => exact ⟨0, by omega, rfl, HF.out, hb⟩
        case round =>
          obtain ⟨k, hk, rfl, hFi, hbi⟩ := hrel
          obtain ⟨c0, c1, c2, c3, c4, fz⟩ := fbox_cells hFi
          simp only at c0 c1 c2 c3 c4
          have hFl := box_lt hFi
          have hq := hrow _ hbi
          have hgi : g < wr.heap.size := by have := hbi.size; omega
          have HFi := Lib.hid hFi; clear hFi
          by_cases hk8 : k < 8
          · obtain ⟨K, hK⟩ : ∃ K, kindL ((k : Int) + 1) = K := ⟨_, rfl⟩
            have hkw : ∀ W : World, Calls Tryd.prog 24 #[.int .i64 ((k : Int) + 1)] W fun r w' => r = .returned (.string ⟨K.toArray⟩) ∧ Below W.heap.size W w' := fun W => by
              have := specKindWord_any ((k : Int) + 1) W
              rw [hK] at this; exact this
            have hk9 : (k : Int) + 1 ≤ 8 := by omega
            by_cases hxK : x = K
            · have hkf : kf x (k + 1) f.kind = (k : Int) + 1 := by rw [kf, if_pos (by rw [hxK, ← hK]; rfl)]; rfl
              have e1 : (x == K) = true := by simpa using hxK
              have e2 : ((⟨x.toArray⟩ : ByteArray).toList == (⟨K.toArray⟩ : ByteArray).toList) = true := by rw [hxK]; simp
              clear hxK hK
              go_wp2_with fail
              (refine wp_region_ext (by kernel_rfl) (by kernel_rfl) ?_; (repeat (go_big_quiet_step (first | (go_at_call 24; refine Calls.ext_of (hkw _))))); refine wpQuiet_nil ?_; intro w12 hb12; obtain ⟨hc12, hf12⟩ := bcell hb12; have hz12 := hb12.size; (try simp only [World.size_alloc, World.size_setCell, World.size_drew] at hz12))
              have hFl2 := Nat.lt_of_lt_of_le hFl hz12
              have hF12 := (hb12.block F hFl).trans HFi.out
              obtain ⟨c0', c1', c2', c3', c4', fz'⟩ := fbox_cells hF12
              have HF12 := Lib.hid hF12
              have hT12 : Below F w1 w12 := hbi.trans (hb12.mono (by omega))
              clear hb12 hc12 hf12 hF12 c0 c1 c2 c3 c4 fz
              go_wp2_with fail
              go_roundw
              case rel => exact ⟨k + 1, by omega, by go_num, fbox_set HF12.out (by rw [hkf]; rfl), hT12.setCell (Nat.le_refl _) _⟩
              case measure => simp [intOf]; omega
            · have hkf : kf x (k + 1) f.kind = kf x k f.kind := by rw [kf, if_neg (by rw [show ((k + 1 : Nat) : Int) = (k : Int) + 1 from rfl, hK]; exact hxK)]
              have e1 : (x == K) = false := by simpa using hxK
              have e2 : ((⟨x.toArray⟩ : ByteArray).toList == (⟨K.toArray⟩ : ByteArray).toList) = false := by rw [beq_bytes, decide_eq_false]; intro e; apply hxK; have := congrArg bL e; simpa [bL] using this
              clear hxK hK
              go_wp2_with fail
              (refine wp_region_ext (by kernel_rfl) (by kernel_rfl) ?_; (repeat (go_big_quiet_step (first | (go_at_call 24; refine Calls.ext_of (hkw _))))); refine wpQuiet_nil ?_; intro w12 hb12; obtain ⟨hc12, hf12⟩ := bcell hb12; have hz12 := hb12.size; (try simp only [World.size_alloc, World.size_setCell, World.size_drew] at hz12))
              have hF12 := (hb12.block F hFl).trans HFi.out
              have HF12 := Lib.hid hF12
              have hT12 : Below F w1 w12 := hbi.trans (hb12.mono (by omega))
              clear hb12 hc12 hf12 hF12 c0 c1 c2 c3 c4 fz
              go_wp2_with fail
              go_roundw
              case rel => exact ⟨k + 1, by omega, by go_num, by rw [hkf]; exact HF12.out, hT12⟩
              case measure => simp [intOf]; omega
          · obtain rfl : k = 8 := by omega
            obtain ⟨dr, hdr⟩ : ∃ dr, decide (x = repW) = dr := ⟨_, rfl⟩
            obtain ⟨dp, hdp⟩ : ∃ dp, decide (x = packW) = dp := ⟨_, rfl⟩
            have r1 : ((⟨x.toArray⟩ : ByteArray).toList == (⟨#[114, 101, 112, 101, 97, 116, 101, 100]⟩ : ByteArray).toList) = dr := by rw [beq_bytes, ← hdr, decide_eq_decide]; exact ⟨fun e => by have := congrArg bL e; simpa [bL, repW] using this, fun e => by rw [e]; rfl⟩
            have r2 : ((⟨x.toArray⟩ : ByteArray).toList == (⟨#[112, 97, 99, 107, 101, 100]⟩ : ByteArray).toList) = dp := by rw [beq_bytes, ← hdp, decide_eq_decide]; exact ⟨fun e => by have := congrArg bL e; simpa [bL, packW] using this, fun e => by rw [e]; rfl⟩
            have r3 : (x == [114, 101, 112, 101, 97, 116, 101, 100]) = dr := by rw [← hdr, Bool.eq_iff_iff, beq_iff_eq, decide_eq_true_iff]; exact Iff.rfl
            have r4 : (x == [112, 97, 99, 107, 101, 100]) = dp := by rw [← hdp, Bool.eq_iff_iff, beq_iff_eq, decide_eq_true_iff]; exact Iff.rfl
            have hgne : ¬ g = F := by omega
            have hgne2 : ¬ F = g := by omega
            have HDR := Lib.hid hdr; have HDP := Lib.hid hdp; clear hdr hdp HFo
            obtain ⟨a1, a2, a3, a4, a5⟩ := f
            simp only at c0 c1 c2 c3 c4 HFi
            obtain ⟨b3, hb3⟩ : ∃ b3, (a3 || dr) = b3 := ⟨_, rfl⟩
            obtain ⟨b4, hb4⟩ : ∃ b4, (a4 || dp) = b4 := ⟨_, rfl⟩
            have HB3 := Lib.hid hb3; have HB4 := Lib.hid hb4; clear hb3 hb4
            cases hnv : numUpto 999999999 x with
            | none =>
              have hnx : ∀ W : World, Calls Tryd.prog 37 #[.string ⟨x.toArray⟩] W fun r w' => r = .returned (.tuple #[.int .i64 0, .bool false]) ∧ Below W.heap.size W w' := fun W => by
                have := hnum x W
                rw [numD, hnv] at this; exact this
              have HNV := Lib.hid hnv; clear hnv
              go_wp2_with fail
              refine (hnx _).mono ?_
              rintro r w13 ⟨rfl, hb13⟩
              have hF13 := (hb13.block F hFl).trans HFi.out
              obtain ⟨c0', c1', c2', c3', c4', fz'⟩ := fbox_cells hF13
              simp only at c0' c1' c2' c3' c4'
              have HF13 := Lib.hid hF13
              have hT13 : Below F w1 w13 := hbi.trans (hb13.mono (by omega))
              have hq13 := hrow _ hT13
              have hz13 := hb13.size
              have hg13 : g < w13.heap.size := by omega
              clear hb13 hF13 c0 c1 c2 c3 c4 fz hq hnx hnum
              cases a3 <;> cases a4
              all_goals
                go_wp2_with fail
                go_roundw
                case rel => exact ⟨j + 1, by omega, by go_num, ⟨⟨a1, kf x 8 a2, b3, b4, a5⟩, (by rw [← HB3.out, ← HB4.out]; apply hset_eq (hset_set (hset_set HF13.out)); rfl), Lib.hid (by rw [HFn.out, stepS, HNV.out, HDR.out, HDP.out, ← HB3.out, ← HB4.out]; try rfl)⟩, (hT13.setCell (Nat.le_refl _) _).setCell (Nat.le_refl _) _⟩
                case measure => simp [intOf]; omega
            | some v =>
              have hnx : ∀ W : World, Calls Tryd.prog 37 #[.string ⟨x.toArray⟩] W fun r w' => r = .returned (.tuple #[.int .i64 v, .bool true]) ∧ Below W.heap.size W w' := fun W => by
                have := hnum x W
                rw [numD, hnv] at this; exact this
              have HNV := Lib.hid hnv; clear hnv
              go_wp2_with fail
              refine (hnx _).mono ?_
              rintro r w13 ⟨rfl, hb13⟩
              have hF13 := (hb13.block F hFl).trans HFi.out
              obtain ⟨c0', c1', c2', c3', c4', fz'⟩ := fbox_cells hF13
              simp only at c0' c1' c2' c3' c4'
              have HF13 := Lib.hid hF13
              have hT13 : Below F w1 w13 := hbi.trans (hb13.mono (by omega))
              have hq13 := hrow _ hT13
              have hz13 := hb13.size
              have hg13 : g < w13.heap.size := by omega
              clear hb13 hF13 c0 c1 c2 c3 c4 fz hq hnx hnum
              cases a3 <;> cases a4
              all_goals
                go_wp2_with fail
                go_roundw
                case rel => exact ⟨j + 1, by omega, by go_num, ⟨⟨a1, kf x 8 a2, b3, b4, v⟩, (by rw [← HB3.out, ← HB4.out]; apply hset_eq (hset_set (hset_set (hset_set HF13.out))); rfl), Lib.hid (by rw [HFn.out, stepS, HNV.out, HDR.out, HDP.out, ← HB3.out, ← HB4.out]; try rfl)⟩, ((hT13.setCell (Nat.le_refl _) _).setCell (Nat.le_refl _) _).setCell (Nat.le_refl _) _⟩
                case measure => simp [intOf]; omega
      · have hje : j = wr0.length := by omega
        have hfs : f = specP (x0 :: wr0) := by rw [HFo.out, hje, List.take_of_length_le (Nat.le_refl _), ← hN0]; rfl
        have HFS := Lib.hid hfs; clear hfs
        obtain ⟨c0, c1, c2, c3, c4, fz⟩ := fbox_cells HF.out
        have hFl := box_lt HF.out
        obtain ⟨G, hG⟩ : ∃ G, fieldL f = G := ⟨_, rfl⟩
        have hft : ∀ W : World, Calls Tryd.prog 7 #[.agg #[.int .i64 f.number, .int .i64 f.kind, .bool f.rep, .bool f.packed, .int .i64 f.msg]] W fun r w' => r = .returned (.string ⟨G.toArray⟩) ∧ Below W.heap.size W w' := fun W => by
          have := specFieldText_any f W
          rw [sB, hG] at this; exact this
        have HRes0 := (hb.block w.heap.size (by omega)).trans HRes.out
        have HRl := box_lt HRes0
        have HRS := Lib.hid HRes0; clear HRes0
        have hTw : Below w.heap.size w wr := hT1.trans (hb.mono (by omega))
        have hRF : ¬ w.heap.size = F := by omega
        have hRF2 : ¬ F = w.heap.size := by omega
        go_wp2_with fail
        refine (hft _).mono ?_
        rintro r w14 ⟨rfl, hb14⟩
        have hF14 := (hb14.block F hFl).trans HF.out
        have hR14 := (hb14.block w.heap.size HRl).trans HRS.out
        obtain ⟨d0, d1, d2, d3, d4, dz⟩ := fbox_cells hF14
        obtain ⟨r0, r1, r2, r3, r4, rz⟩ := fbox_cells hR14
        simp only at r0 r1 r2 r3 r4
        have hRl14 := box_lt hR14
        have hT14 : Below w.heap.size w w14 := hTw.trans (hb14.mono hTw.size)
        by_cases heq : G = bL s
        · have hRR2 : (RF, RB) = (f, true) := by rw [HRR.out, if_pos (by rw [← HFS.out, hG, heq]), ← HFS.out]
          simp only [Prod.mk.injEq] at hRR2
          obtain ⟨rfl, rfl⟩ := hRR2
          have e1 : ((⟨G.toArray⟩ : ByteArray).toList == s.toList) = true := by rw [heq, ← str_of_bL]; simp
          have e2 : (G == s.toList) = true := by rw [ByteArray.toList_eq, heq]; simp [bL]
          clear heq hG hft HF HFS hF14 hR14 c0 c1 c2 c3 c4 fz
          go_wp2_with fail
          refine bodyPost_ret (v := .tuple #[RF.val, .bool true]) (by simp [results, Tryd.results15, go_sem, hRl14, r0, r1, r2, r3, r4]) rfl ⟨rfl, ((((hT14.setCell (Nat.le_refl _) _).setCell (Nat.le_refl _) _).setCell (Nat.le_refl _) _).setCell (Nat.le_refl _) _).setCell (Nat.le_refl _) _⟩
        · have hRR2 : (RF, RB) = (zeroR, false) := by rw [HRR.out, if_neg (by rw [← HFS.out, hG]; exact heq)]
          simp only [Prod.mk.injEq] at hRR2
          obtain ⟨rfl, rfl⟩ := hRR2
          have e1 : ((⟨G.toArray⟩ : ByteArray).toList == s.toList) = false := by rw [beq_bytes, decide_eq_false]; intro e; apply heq; have := congrArg bL e; simpa [bL] using this
          have e2 : (G == s.toList) = false := by rw [ByteArray.toList_eq, beq_eq_false_iff_ne]; exact heq
          clear heq hG hft HF HFS hF14 hR14 c0 c1 c2 c3 c4 fz d0 d1 d2 d3 d4 dz
          go_wp2_with fail
          refine bodyPost_ret (v := .tuple #[zeroR.val, .bool false]) (by simp [results, Tryd.results15, go_sem, zeroR, hRl14, r0, r1, r2, r3, r4]) rfl ⟨rfl, ((((hT14.setCell (Nat.le_refl _) _).setCell (Nat.le_refl _) _).setCell (Nat.le_refl _) _).setCell (Nat.le_refl _) _).setCell (Nat.le_refl _) _⟩
def hasNum (fs : List Fld) (n : Int) : Bool := fs.any fun f => f.number == n
theorem Shs.at {w : World} {a : Option Addr} {xs : List Shp} (h : Shs w a xs) {k : Nat} {x : Shp} (hx : xs[k]? = some x) :
    ∃ b off a' cap', a = some ⟨b, off, none⟩ ∧ b < w.heap.size ∧ w.cell? ⟨b, off + k * 2, none⟩ = some (.int .i64 x.id) ∧ w.cell? ⟨b, off + k * 2 + 1, none⟩ = some (.slice a' x.flds.length cap') ∧ Flds w a' x.flds := h k x hx
def ShsL (w : World) (a : Option Addr) (xs : List Shp) : Prop :=
  ∀ (k : Nat) (x : Shp), xs[k]? = some x → ∃ b off a' cap', a = some ⟨b, off, none⟩ ∧ b < w.heap.size ∧ w.cell? ⟨b, off + k * 2, none⟩ = some (.int .i64 x.id) ∧ w.cell? ⟨b, off + k * 2 + 1, none⟩ = some (.slice a' x.flds.length cap') ∧ Flds w a' x.flds ∧ x.flds.length ≤ cap'
theorem ShsL.keep {w w' : World} {a : Option Addr} {xs : List Shp} (h : ShsL w a xs) (hb : Below w.heap.size w w') : ShsL w' a xs := fun k x hx => by
  obtain ⟨b, off, a', cap', h1, h2, h3, h4, h5, h6⟩ := h k x hx
  exact ⟨b, off, a', cap', h1, Nat.lt_of_lt_of_le h2 hb.size, (hb.cell (p := ⟨b, _, none⟩) h2).trans h3, (hb.cell (p := ⟨b, _, none⟩) h2).trans h4, Sl.keep h5 hb, h6⟩
theorem own_lecapR {w : World} {base n cap size : Nat} {t : TypeId} {a : Option Addr} {L : List Value} (h : w.ownsRow base t size (.slice a n cap) n L) : n ≤ cap := by
  rcases h.2 with ⟨e, h0⟩ | ⟨g, c, cur, e, _, _, hc, _⟩
  · simp only [Value.slice.injEq] at e; omega
  · simp only [Value.slice.injEq] at e; omega
section
variable {xs : List Shp} {i k : Nat} {x : Shp} {f : Fld} {R : Int × Int × Int} {O : Option (Int × Int × Int)}
end
end Go.Proofs.YtbpilecgnfnndaaDoor
namespace Go.Proofs.YtbpilecgnfnndaaDoor
set_option linter.unusedSimpArgs false
set_option linter.unusedVariables false
open Go.ChangeShapes Go.WideShapes Go.ChangeAt Go.RowKit Go.BigFrame
end Go.Proofs.YtbpilecgnfnndaaDoor
namespace Go.Proofs.YtbpilecgnfnndaaDoor
set_option linter.unusedSimpArgs false
set_option linter.unusedVariables false
def Dist (fs : List Fld) : Prop := ∀ (k : Nat) (f : Fld), fs[k]? = some f → hasNum (fs.take k) f.number = false
theorem Dist.nil : Dist [] := fun k f h => by simp at h
theorem Dist.snoc {fs : List Fld} {f : Fld} (h : Dist fs) (hf : hasNum fs f.number = false) : Dist (fs ++ [f]) := by
  intro k g hg
  rcases Nat.lt_trichotomy k fs.length with hk | hk | hk
  · rw [List.getElem?_append_left hk] at hg
    rw [List.take_append_of_le_length (by omega)]
    exact h k g hg
  · subst hk
    rw [List.getElem?_append_right (Nat.le_refl _)] at hg
    simp at hg; subst hg
    rw [List.take_left]
    exact hf
  · rw [List.getElem?_eq_none (by simp; omega)] at hg; simp at hg
end Go.Proofs.YtbpilecgnfnndaaDoor
namespace Go.Proofs.YtbpilecgnfnndaaDoor
set_option linter.unusedSimpArgs false
set_option linter.unusedVariables false
open Go.ChangeShapes Go.WideShapes Go.ChangeAt Go.RowKit Go.BigFrame
structure TxtW (w : World) : Prop where
  num : NumW w
  max : ∃ m, w.cell? ⟨0, 0, none⟩ = some (.int .i64 m)
theorem TxtW.keep {w w' : World} (h : TxtW w) (hb : Below w.heap.size w w') : TxtW w' := by
  obtain ⟨m, hm⟩ := h.max
  exact ⟨h.num.keep hb, m, (hb.cell (World.block_lt_of_cell? w _ hm)).trans hm⟩
def splitL (n : Nat) (l : List UInt8) (c : UInt8) : List (List UInt8) := Lib.splitK [c] 0 (min n (l.length + 1) - 1) l
theorem splitK_len (sep : List UInt8) : ∀ (k : Nat) (l : List UInt8), ∀ x ∈ Lib.splitK sep 0 k l, x.length ≤ l.length
  | 0, l, x, hx => by simp [Lib.splitK] at hx; subst hx; exact Nat.le_refl _
  | k + 1, l, x, hx => by
    rw [Lib.splitK] at hx
    split at hx
    · simp at hx; subst hx; exact Nat.le_refl _
    · rcases List.mem_cons.1 hx with rfl | hx
      · rw [List.length_take]; omega
      · have := splitK_len sep k _ x hx
        rw [List.length_drop] at this; omega
theorem splitK_num (sep : List UInt8) : ∀ (k : Nat) (l : List UInt8), (Lib.splitK sep 0 k l).length ≤ k + 1
  | 0, l => by simp [Lib.splitK]
  | k + 1, l => by
    rw [Lib.splitK]
    split
    · simp
    · have := splitK_num sep k (l.drop ((Lib.index l sep).toNat + sep.length)); simp; omega
theorem splitK_ne (sep : List UInt8) : ∀ (k : Nat) (l : List UInt8), Lib.splitK sep 0 k l ≠ []
  | 0, l => by simp [Lib.splitK]
  | k + 1, l => by
    rw [Lib.splitK]
    split <;> simp
theorem implSplit_any (s : ByteArray) (c : UInt8) (n : Nat) (w : World) (hw : TxtW w) (hs : s.size ≤ 1048576) (hn : 1 ≤ n) (hn2 : n ≤ 1000) :
    Calls Tryd.prog 38 #[.string s, .string (sB [c]), .int .i64 n] w (FreshStrs w (splitL n (bL s) c)) := by
  obtain ⟨m, hm⟩ := hw.max
  refine (Tryd.strings_SplitN s (sB [c]) n m w (by omega) hm (by simp [ByteArray.size]) hn (by omega)).mono ?_
  rintro r w' ⟨rfl, rfl⟩
  have hd := Lib.splitB_data (sB [c]) 0 (min n (s.size + 1) - 1) s
  have hL : (Lib.splitB (sB [c]) 0 (min n (s.size + 1) - 1) s).map bL = splitL n (bL s) c := by rw [splitL, bL_len]; exact hd
  have hlen : (Lib.splitB (sB [c]) 0 (min n (s.size + 1) - 1) s).length = (splitL n (bL s) c).length := by rw [← hL, List.length_map]
  have hle := Lib.splitB_length_le (sB [c]) 0 (min n (s.size + 1) - 1) s
  obtain ⟨B, hB⟩ : ∃ B, Lib.splitB (sB [c]) 0 (min n (s.size + 1) - 1) s = B := ⟨_, rfl⟩
  rw [hB] at hL hlen hle ⊢
  have hN : B.length ≤ min n (s.size + 1) := by omega
  refine ⟨w.heap.size, min n (s.size + 1), by rw [hlen], ⟨by simp [strRowP], .inr ⟨w.heap.size, min n (s.size + 1), Lib.cellsOf B (min n (s.size + 1)), rfl, Nat.le_refl _, heap_nth0 w _, by rw [← hlen]; exact hN, by unfold maxLen; omega, by rw [Lib.cellsOf_size hN]; omega, ?_⟩⟩, (Below.refl _ _).alloc (Nat.le_refl _) _⟩
  rw [← hlen, Nat.mul_one]
  show List.take B.length (B.map Value.string ++ List.replicate (min n (s.size + 1) - B.length) (Value.string ByteArray.empty)) = _
  rw [List.take_append_of_le_length (by simp), List.take_of_length_le (by simp), ← hL]
  simp only [strRowP, List.map_map]
  exact List.map_congr_left fun x _ => by rw [Function.comp_apply, sB, ← str_of_bL]
def stepI (f : Fld) (w : List UInt8) : Fld := if w = repW then ⟨f.number, f.kind, true, f.packed, f.msg⟩ else if w = packW then ⟨f.number, f.kind, f.rep, true, f.msg⟩ else ⟨f.number, f.kind, f.rep, f.packed, numD w⟩
def implP (x0 x1 : List UInt8) (ws : List (List UInt8)) : Fld := ws.foldl stepI ⟨numD x0, kf x1 8 0, false, false, 0⟩
def readW (l : List UInt8) : List (List UInt8) → Fld × Bool
  | x0 :: x1 :: ws => if fieldL (implP x0 x1 ws) = l then (implP x0 x1 ws, true) else (zeroR, false)
  | _ => (zeroR, false)
def readI (l : List UInt8) : Fld × Bool := readW l (splitL 6 l 32)
theorem foldl_snocI {ws : List (List UInt8)} {j : Nat} {x : List UInt8} {f0 : Fld} (hx : ws[j]? = some x) : (ws.take (j + 1)).foldl stepI f0 = stepI ((ws.take j).foldl stepI f0) x := by
  rw [List.take_add_one, hx, List.foldl_append]; rfl
set_option maxRecDepth 100000 in
set_option maxHeartbeats 8000000 in
theorem implReadField_any (s : ByteArray) (w : World) (hw : TxtW w) (hs : s.size ≤ 1048576) :
    Calls Tryd.prog 16 #[.string s] w fun r w' => r = .returned (.tuple #[(readI (bL s)).1.val, .bool (readI (bL s)).2]) ∧ Below w.heap.size w w' := by
  obtain ⟨⟨RF, RB⟩, hR⟩ : ∃ R, readI (bL s) = R := ⟨_, rfl⟩
  rw [hR]
  have HR := Lib.hid hR; clear hR
  have HW := Lib.hid hw; clear hw
  obtain ⟨ws, hws⟩ : ∃ ws, splitL 6 (bL s) 32 = ws := ⟨_, rfl⟩
  have hwn : ws ≠ [] := by rw [← hws]; exact splitK_ne _ _ _
  have hwl : ws.length ≤ 6 := by rw [← hws]; have := splitK_num [32] (min 6 ((bL s).length + 1) - 1) (bL s); simp only [splitL]; omega
  have hwx : ∀ x ∈ ws, x.length ≤ 1048576 := by
    rw [← hws]; intro x hx
    have := splitK_len [32] _ (bL s) x hx
    rw [bL_len] at this; omega
  have hRR : (RF, RB) = readW (bL s) ws := by rw [← HR.out, readI, hws]
  have hparts : ∀ W : World, TxtW W → Calls Tryd.prog 38 #[.string s, .string ⟨#[32]⟩, .int .i64 6] W (FreshStrs W ws) := fun W hW => by
    have := implSplit_any s 32 6 W hW hs (by omega) (by omega)
    rw [hws] at this; exact this
  clear hws HR
  obtain ⟨x0, wr0, rfl⟩ : ∃ x0 r, ws = x0 :: r := by
    cases ws with
    | nil => exact absurd rfl hwn
    | cons x r => exact ⟨x, r, rfl⟩
  cases wr0 with
  | nil =>
    simp only [readW, Prod.mk.injEq] at hRR
    obtain ⟨rfl, rfl⟩ := hRR
    go_enter Tryd.func16, Tryd.ntmps16
    go_wp2_with fail
    refine (hparts _ (HW.out.keep (by ((repeat (first | (with_reducible exact Below.refl _ _) | (with_reducible assumption) | (with_reducible refine Below.alloc ?_ ?_ _) | (with_reducible refine Below.setCell ?_ ?_ _) | (with_reducible refine Below.drew ?_) | (with_reducible refine below_setRow ?_ ?_ _) | (refine Below.trans ?_ (Below.mono (by assumption) ?_)))); all_goals (first | omega | (simp; done) | (simp; omega)))))).mono ?_
    rintro r w1 ⟨g, cap, rfl, ho, hb1⟩
    have hz1 := hb1.size
    simp only [World.size_alloc] at hz1
    have hR1 := (hb1.block w.heap.size (by simp)).trans (hset_new (o := .cells (fcs zeroR) 25 (0, 0)) rfl)
    obtain ⟨r0, r1, r2, r3, r4, rz⟩ := fbox_cells hR1
    have hRl := box_lt hR1
    have hT1 : Below w.heap.size w w1 := ((Below.refl _ _).alloc (Nat.le_refl _) _).trans (hb1.mono (by simp))
    clear ho hparts
    go_wp2_with fail
    refine bodyPost_ret (v := .tuple #[zeroR.val, .bool false]) (by simp [results, Tryd.results16, go_sem, zeroR, hRl, r0, r1, r2, r3, r4]) rfl ⟨rfl, ((((hT1.setCell (Nat.le_refl _) _).setCell (Nat.le_refl _) _).setCell (Nat.le_refl _) _).setCell (Nat.le_refl _) _).setCell (Nat.le_refl _) _⟩
  | cons x1 wr1 =>
    rw [readW] at hRR
    have HRR := Lib.hid hRR; clear hRR
    have hx0 := hwx x0 (List.mem_cons_self ..)
    have hwl' : wr1.length ≤ 4 := by simp at hwl; omega
    go_enter Tryd.func16, Tryd.ntmps16
    go_wp2_with fail
    refine (hparts _ (HW.out.keep (by ((repeat (first | (with_reducible exact Below.refl _ _) | (with_reducible assumption) | (with_reducible refine Below.alloc ?_ ?_ _) | (with_reducible refine Below.setCell ?_ ?_ _) | (with_reducible refine Below.drew ?_) | (with_reducible refine below_setRow ?_ ?_ _) | (refine Below.trans ?_ (Below.mono (by assumption) ?_)))); all_goals (first | omega | (simp; done) | (simp; omega)))))).mono ?_
    rintro r w1 ⟨g, cap, rfl, ho, hb1⟩
    have hz1 := hb1.size
    simp only [World.size_alloc] at hz1
    have hgl := (ho.lt g rfl).2
    have hg1 := (ho.lt g rfl).1
    simp only [World.size_alloc] at hg1
    have hcap := own_lecapR ho
    have hRes := (hb1.block w.heap.size (by simp)).trans (hset_new (o := .cells (fcs zeroR) 25 (0, 0)) rfl)
    have HO := Lib.hid ho; have HRes := Lib.hid hRes; clear ho hRes hparts
    have hT1 : Below w.heap.size w w1 := ((Below.refl _ _).alloc (Nat.le_refl _) _).trans (hb1.mono (by simp))
    have q0 := own_cell HO.out (j := 0) (l := x0) rfl
    have hnum : ∀ (x : List UInt8) (W : World), TxtW W → x.length ≤ 1048576 → Calls Tryd.prog 39 #[.string ⟨x.toArray⟩] W fun r w' => r = .returned (.tuple #[.int .i64 (numD x), .bool (numUpto 999999999 x).isSome]) ∧ Below W.heap.size W w' := fun x W hW hx => implNumber_any ⟨x.toArray⟩ W hW.num (by simpa [ByteArray.size] using hx)
    obtain ⟨N0, hN0⟩ : ∃ N0, numD x0 = N0 := ⟨_, rfl⟩
    have hn0 := fun W hW => hnum x0 W hW hx0
    rw [hN0] at hn0
    go_wp2_with fail
    refine (hn0 _ (HW.out.keep hT1)).mono ?_
    rintro r w4 ⟨rfl, hb4⟩
    have hT4 : Below w.heap.size w w4 := hT1.trans (hb4.mono hT1.size)
    have HO4 := Lib.hid (owns_below HO.out hb4 (Nat.le_refl _))
    have HRes4 := Lib.hid ((hb4.block w.heap.size (by omega)).trans HRes.out)
    have hg4 : g < w4.heap.size := Nat.lt_of_lt_of_le hgl hb4.size
    have hz4 := hT4.size
    have hR4l := box_lt HRes4.out
    clear hb4 hn0 q0 HO HRes
    obtain ⟨F, hFe⟩ : ∃ F, w4.heap.size = F := ⟨_, rfl⟩
    have hgF : g < F := by omega
    go_wp2_with fail
    go_loopw [8] (fun kv wi => ∃ k : Nat, k ≤ 8 ∧ kv = .int .i64 (k + 1) ∧ wi.heap[F]? = some (.cells (fcs ⟨N0, kf x1 k 0, false, false, 0⟩) 25 (0, 0)) ∧ Below F w4 wi) (fun kv _ => 9 - (intOf kv).toNat)
    case atStart => exact ⟨0, by omega, rfl, hset_new hFe.symm, (Below.refl F _).alloc (by omega) _⟩
    case round =>
      obtain ⟨k, hk, rfl, hFi, hbi⟩ := hrel
      obtain ⟨c0, c1, c2, c3, c4, fz⟩ := fbox_cells hFi
      simp only at c0 c1 c2 c3 c4
      have hFl := box_lt hFi
      have hq : wr.cell? ⟨g, 1, none⟩ = some (.string ⟨x1.toArray⟩) := (World.cell?_of_block (a := ⟨g, 1, none⟩) (hbi.block g hgF)).trans (own_cell HO4.out (j := 1) (l := x1) rfl)
      have hgi : g < wr.heap.size := by omega
      have HFi := Lib.hid hFi; clear hFi
      by_cases hk8 : k < 8
      · obtain ⟨K, hK⟩ : ∃ K, kindL ((k : Int) + 1) = K := ⟨_, rfl⟩
        have hkw : ∀ W : World, Calls Tryd.prog 28 #[.int .i64 ((k : Int) + 1)] W fun r w' => r = .returned (.string ⟨K.toArray⟩) ∧ Below W.heap.size W w' := fun W => by
          have := implKindWord_any ((k : Int) + 1) W
          rw [hK] at this; exact this
        have hk9 : (k : Int) + 1 ≤ 8 := by omega
        by_cases hxK : x1 = K
        · have hkf : kf x1 (k + 1) 0 = (k : Int) + 1 := by rw [kf, if_pos (by rw [hxK, ← hK]; rfl)]; rfl
          have e1 : (K == x1) = true := by simpa using hxK.symm
          have e2 : ((⟨K.toArray⟩ : ByteArray).toList == (⟨x1.toArray⟩ : ByteArray).toList) = true := by rw [hxK]; simp
          clear hxK hK
          go_wp2_with fail
          (refine wp_region_ext (by kernel_rfl) (by kernel_rfl) ?_; (repeat (go_big_quiet_step (first | (go_at_call 28; refine Calls.ext_of (hkw _))))); refine wpQuiet_nil ?_; intro w12 hb12; obtain ⟨hc12, hf12⟩ := bcell hb12; have hz12 := hb12.size; (try simp only [World.size_alloc, World.size_setCell, World.size_drew] at hz12))
          have hF12 := (hb12.block F hFl).trans HFi.out
          obtain ⟨c0', c1', c2', c3', c4', fz'⟩ := fbox_cells hF12
          have HF12 := Lib.hid hF12
          have hFl2 := box_lt hF12
          have hT12 : Below F w4 w12 := hbi.trans (hb12.mono (by omega))
          clear hb12 hc12 hf12 hF12 c0 c1 c2 c3 c4 fz
          go_wp2_with fail
          go_roundw
          case rel => exact ⟨k + 1, by omega, by go_num, fbox_set HF12.out (by rw [hkf]; rfl), hT12.setCell (Nat.le_refl _) _⟩
          case measure => simp [intOf]; omega
        · have hkf : kf x1 (k + 1) 0 = kf x1 k 0 := by rw [kf, if_neg (by rw [show ((k + 1 : Nat) : Int) = (k : Int) + 1 from rfl, hK]; exact hxK)]
          have e1 : (K == x1) = false := by rw [beq_eq_false_iff_ne]; exact fun e => hxK e.symm
          have e2 : ((⟨K.toArray⟩ : ByteArray).toList == (⟨x1.toArray⟩ : ByteArray).toList) = false := by rw [beq_bytes, decide_eq_false]; intro e; apply hxK; have := congrArg bL e; simpa [bL] using this.symm
          clear hxK hK
          go_wp2_with fail
          (refine wp_region_ext (by kernel_rfl) (by kernel_rfl) ?_; (repeat (go_big_quiet_step (first | (go_at_call 28; refine Calls.ext_of (hkw _))))); refine wpQuiet_nil ?_; intro w12 hb12; obtain ⟨hc12, hf12⟩ := bcell hb12; have hz12 := hb12.size; (try simp only [World.size_alloc, World.size_setCell, World.size_drew] at hz12))
          have hF12 := (hb12.block F hFl).trans HFi.out
          have HF12 := Lib.hid hF12
          have hT12 : Below F w4 w12 := hbi.trans (hb12.mono (by omega))
          clear hb12 hc12 hf12 hF12 c0 c1 c2 c3 c4 fz
          go_wp2_with fail
          go_roundw
          case rel => exact ⟨k + 1, by omega, by go_num, by rw [hkf]; exact HF12.out, hT12⟩
          case measure => simp [intOf]; omega
      · obtain rfl : k = 8 := by omega
        have hcl : (2 : Int) ≤ cap := by simp at hcap; omega
        have hcl2 : (2 : Int) ≤ ((x0 :: x1 :: wr1).length : Int) := by simp; omega
        clear c0 c1 c2 c3 c4 fz hq
        by_cases hc2 : cap = 2
        · have hw0 : wr1.length = 0 := by simp at hcap; omega
          go_wp2_with fail
          go_loopw [41] (fun i wi => ∃ j : Nat, j ≤ wr1.length ∧ i = .int .i64 j ∧ (∃ f : Fld, wi.heap[F]? = some (.cells (fcs f) 25 (0, 0)) ∧ Hid (f = (wr1.take j).foldl stepI ⟨N0, kf x1 8 0, false, false, 0⟩)) ∧ Below F w4 wi) (fun i _ => wr1.length - (intOf i).toNat)
          case atStart => exact ⟨0, Nat.zero_le _, rfl, ⟨_, HFi.out, Lib.hid rfl⟩, hbi⟩
          case round =>
            obtain ⟨j, hj, rfl, ⟨f, hF, HFo⟩, hb⟩ := hrel
            have hFl := box_lt hF
            have HF := Lib.hid hF; clear hF HFi
            by_cases hlt : j < wr1.length
            · omega
            · have hje : j = wr1.length := by omega
              have hfs : f = implP x0 x1 wr1 := by rw [HFo.out, hje, List.take_of_length_le (Nat.le_refl _), ← hN0]; rfl
              have HFS := Lib.hid hfs; clear hfs
              obtain ⟨c0, c1, c2, c3, c4, fz⟩ := fbox_cells HF.out
              obtain ⟨G, hG⟩ : ∃ G, fieldL f = G := ⟨_, rfl⟩
              have hft : ∀ W : World, TabW W → Calls Tryd.prog 9 #[.agg #[.int .i64 f.number, .int .i64 f.kind, .bool f.rep, .bool f.packed, .int .i64 f.msg]] W fun r w' => r = .returned (.string ⟨G.toArray⟩) ∧ Below W.heap.size W w' := fun W hW => by
                have := implFieldText_any f W hW
                rw [sB, hG] at this; exact this
              have HRes0 := (hb.block w.heap.size (by omega)).trans HRes4.out
              have HRl := box_lt HRes0
              have HRS := Lib.hid HRes0; clear HRes0
              have hTw : Below w.heap.size w wr := hT4.trans (hb.mono (by omega))
              have hRF : ¬ w.heap.size = F := by omega
              have hRF2 : ¬ F = w.heap.size := by omega
              go_wp2_with fail
              refine (hft _ (HW.out.keep hTw).num.tab).mono ?_
              rintro r w14 ⟨rfl, hb14⟩
              have hF14 := (hb14.block F hFl).trans HF.out
              have hR14 := (hb14.block w.heap.size HRl).trans HRS.out
              obtain ⟨d0, d1, d2, d3, d4, dz⟩ := fbox_cells hF14
              obtain ⟨r0, r1, r2, r3, r4, rz⟩ := fbox_cells hR14
              simp only at r0 r1 r2 r3 r4
              have hRl14 := box_lt hR14
              have hT14 : Below w.heap.size w w14 := hTw.trans (hb14.mono hTw.size)
              by_cases heq : G = bL s
              · have hRR2 : (RF, RB) = (f, true) := by rw [HRR.out, if_pos (by rw [← HFS.out, hG, heq]), ← HFS.out]
                simp only [Prod.mk.injEq] at hRR2
                obtain ⟨rfl, rfl⟩ := hRR2
                have e1 : ((⟨G.toArray⟩ : ByteArray).toList == s.toList) = true := by rw [heq, ← str_of_bL]; simp
                have e2 : (G == s.toList) = true := by rw [ByteArray.toList_eq, heq]; simp [bL]
                clear heq hG hft HF HFS hF14 hR14 c0 c1 c2 c3 c4 fz
                go_wp2_with fail
                refine bodyPost_ret (v := .tuple #[RF.val, .bool true]) (by simp [results, Tryd.results16, go_sem, hRl14, r0, r1, r2, r3, r4]) rfl ⟨rfl, ((((hT14.setCell (Nat.le_refl _) _).setCell (Nat.le_refl _) _).setCell (Nat.le_refl _) _).setCell (Nat.le_refl _) _).setCell (Nat.le_refl _) _⟩
              · have hRR2 : (RF, RB) = (zeroR, false) := by rw [HRR.out, if_neg (by rw [← HFS.out, hG]; exact heq)]
                simp only [Prod.mk.injEq] at hRR2
                obtain ⟨rfl, rfl⟩ := hRR2
                have e1 : ((⟨G.toArray⟩ : ByteArray).toList == s.toList) = false := by rw [beq_bytes, decide_eq_false]; intro e; apply heq; have := congrArg bL e; simpa [bL] using this
                have e2 : (G == s.toList) = false := by rw [ByteArray.toList_eq, beq_eq_false_iff_ne]; exact heq
                clear heq hG hft HF HFS hF14 hR14 c0 c1 c2 c3 c4 fz d0 d1 d2 d3 d4 dz
                go_wp2_with fail
                refine bodyPost_ret (v := .tuple #[zeroR.val, .bool false]) (by simp [results, Tryd.results16, go_sem, zeroR, hRl14, r0, r1, r2, r3, r4]) rfl ⟨rfl, ((((hT14.setCell (Nat.le_refl _) _).setCell (Nat.le_refl _) _).setCell (Nat.le_refl _) _).setCell (Nat.le_refl _) _).setCell (Nat.le_refl _) _⟩
        · have hc3 : 2 < cap := by omega
          simp only [show ((8 : Nat) : Int) + 1 = 9 from rfl]
          go_wp2_with fail
          go_loopw [41] (fun i wi => ∃ j : Nat, j ≤ wr1.length ∧ i = .int .i64 j ∧ (∃ f : Fld, wi.heap[F]? = some (.cells (fcs f) 25 (0, 0)) ∧ Hid (f = (wr1.take j).foldl stepI ⟨N0, kf x1 8 0, false, false, 0⟩)) ∧ Below F w4 wi) (fun i _ => wr1.length - (intOf i).toNat)
          case atStart => exact ⟨0, Nat.zero_le _, rfl, ⟨_, HFi.out, Lib.hid rfl⟩, hbi⟩
          case round =>
            obtain ⟨j, hj, rfl, ⟨f, hF, HFo⟩, hb⟩ := hrel
            have hFl := box_lt hF
            have HF := Lib.hid hF; clear hF HFi
            by_cases hlt : j < wr1.length
            · obtain ⟨x, hx, hxm⟩ := at_lt (xs := wr1) (k := j) hlt
              have hq : wr.cell? ⟨g, 2 + j, none⟩ = some (.string ⟨x.toArray⟩) := (World.cell?_of_block (a := ⟨g, 2 + j, none⟩) (hb.block g hgF)).trans (own_cell HO4.out (j := 2 + j) (l := x) (by rw [show 2 + j = j + 1 + 1 by omega, List.getElem?_cons_succ, List.getElem?_cons_succ]; exact hx))
              have HFn := Lib.hid (foldl_snocI (f0 := ⟨N0, kf x1 8 0, false, false, 0⟩) hx)
              rw [← HFo.out] at HFn
              have hxl := hwx x (List.mem_cons_of_mem _ (List.mem_cons_of_mem _ hxm))
              have hgi : g < wr.heap.size := by omega
              have hgne : ¬ g = F := by omega
              have hgne2 : ¬ F = g := by omega
              have hlc : (j : Int) < (wr1.length : Int) := by omega
              obtain ⟨c0, c1, c2, c3, c4, fz⟩ := fbox_cells HF.out
              obtain ⟨a1, a2, a3, a4, a5⟩ := f
              simp only at c0 c1 c2 c3 c4 HF
              clear hx hxm HFo
              by_cases hrp : x = repW
              · have r1 : ((⟨x.toArray⟩ : ByteArray).toList == (⟨#[114, 101, 112, 101, 97, 116, 101, 100]⟩ : ByteArray).toList) = true := by rw [beq_bytes]; exact decide_eq_true (by rw [hrp]; rfl)
                have r3 : (x == [114, 101, 112, 101, 97, 116, 101, 100]) = true := by rw [beq_iff_eq]; exact hrp
                have HH := Lib.hid (show (wr1.take (j + 1)).foldl stepI ⟨N0, kf x1 8 0, false, false, 0⟩ = ⟨a1, a2, true, a4, a5⟩ by rw [HFn.out, stepI, if_pos hrp])
                clear hrp HFn
                go_wp2_with fail
                go_roundw
                case rel => exact ⟨j + 1, by omega, by go_num, ⟨⟨a1, a2, true, a4, a5⟩, fbox_set HF.out rfl, Lib.hid HH.out.symm⟩, hb.setCell (Nat.le_refl _) _⟩
                case measure => simp [intOf]; omega
              · have r1 : ((⟨x.toArray⟩ : ByteArray).toList == (⟨#[114, 101, 112, 101, 97, 116, 101, 100]⟩ : ByteArray).toList) = false := by rw [beq_bytes, decide_eq_false]; intro e; apply hrp; have := congrArg bL e; simpa [bL, repW] using this
                have r3 : (x == [114, 101, 112, 101, 97, 116, 101, 100]) = false := by rw [beq_eq_false_iff_ne]; exact hrp
                by_cases hpk : x = packW
                · have p1 : ((⟨x.toArray⟩ : ByteArray).toList == (⟨#[112, 97, 99, 107, 101, 100]⟩ : ByteArray).toList) = true := by rw [beq_bytes]; exact decide_eq_true (by rw [hpk]; rfl)
                  have p3 : (x == [112, 97, 99, 107, 101, 100]) = true := by rw [beq_iff_eq]; exact hpk
                  have HH := Lib.hid (show (wr1.take (j + 1)).foldl stepI ⟨N0, kf x1 8 0, false, false, 0⟩ = ⟨a1, a2, a3, true, a5⟩ by rw [HFn.out, stepI, if_neg hrp, if_pos hpk])
                  clear hrp hpk HFn
                  go_wp2_with fail
                  go_roundw
                  case rel => exact ⟨j + 1, by omega, by go_num, ⟨⟨a1, a2, a3, true, a5⟩, fbox_set HF.out rfl, Lib.hid HH.out.symm⟩, hb.setCell (Nat.le_refl _) _⟩
                  case measure => simp [intOf]; omega
                · have p1 : ((⟨x.toArray⟩ : ByteArray).toList == (⟨#[112, 97, 99, 107, 101, 100]⟩ : ByteArray).toList) = false := by rw [beq_bytes, decide_eq_false]; intro e; apply hpk; have := congrArg bL e; simpa [bL, packW] using this
                  have p3 : (x == [112, 97, 99, 107, 101, 100]) = false := by rw [beq_eq_false_iff_ne]; exact hpk
                  obtain ⟨V, hV⟩ : ∃ V, numD x = V := ⟨_, rfl⟩
                  have hnx : ∀ W : World, TxtW W → Calls Tryd.prog 39 #[.string ⟨x.toArray⟩] W fun r w' => r = .returned (.tuple #[.int .i64 V, .bool (numUpto 999999999 x).isSome]) ∧ Below W.heap.size W w' := fun W hW => by
                    have := hnum x W hW hxl
                    rw [hV] at this; exact this
                  have HH := Lib.hid (show (wr1.take (j + 1)).foldl stepI ⟨N0, kf x1 8 0, false, false, 0⟩ = ⟨a1, a2, a3, a4, V⟩ by rw [HFn.out, stepI, if_neg hrp, if_neg hpk, hV])
                  have hTw : Below w.heap.size w wr := hT4.trans (hb.mono (by omega))
                  clear hrp hpk HFn hV
                  go_wp2_with fail
                  refine (hnx _ (HW.out.keep hTw)).mono ?_
                  rintro r w13 ⟨rfl, hb13⟩
                  have hF13 := (hb13.block F hFl).trans HF.out
                  obtain ⟨c0', c1', c2', c3', c4', fz'⟩ := fbox_cells hF13
                  have HF13 := Lib.hid hF13
                  have hT13 : Below F w4 w13 := hb.trans (hb13.mono (by omega))
                  have hFl13 := box_lt hF13
                  clear hb13 hF13 c0 c1 c2 c3 c4 fz hnx
                  go_wp2_with fail
                  go_roundw
                  case rel => exact ⟨j + 1, by omega, by go_num, ⟨⟨a1, a2, a3, a4, V⟩, fbox_set HF13.out rfl, Lib.hid HH.out.symm⟩, hT13.setCell (Nat.le_refl _) _⟩
                  case measure => simp [intOf]; omega
            · have hje : j = wr1.length := by omega
              have hfs : f = implP x0 x1 wr1 := by rw [HFo.out, hje, List.take_of_length_le (Nat.le_refl _), ← hN0]; rfl
              have HFS := Lib.hid hfs; clear hfs
              obtain ⟨c0, c1, c2, c3, c4, fz⟩ := fbox_cells HF.out
              obtain ⟨G, hG⟩ : ∃ G, fieldL f = G := ⟨_, rfl⟩
              have hft : ∀ W : World, TabW W → Calls Tryd.prog 9 #[.agg #[.int .i64 f.number, .int .i64 f.kind, .bool f.rep, .bool f.packed, .int .i64 f.msg]] W fun r w' => r = .returned (.string ⟨G.toArray⟩) ∧ Below W.heap.size W w' := fun W hW => by
                have := implFieldText_any f W hW
                rw [sB, hG] at this; exact this
              have HRes0 := (hb.block w.heap.size (by omega)).trans HRes4.out
              have HRl := box_lt HRes0
              have HRS := Lib.hid HRes0; clear HRes0
              have hTw : Below w.heap.size w wr := hT4.trans (hb.mono (by omega))
              have hRF : ¬ w.heap.size = F := by omega
              have hRF2 : ¬ F = w.heap.size := by omega
              go_wp2_with fail
              refine (hft _ (HW.out.keep hTw).num.tab).mono ?_
              rintro r w14 ⟨rfl, hb14⟩
              have hF14 := (hb14.block F hFl).trans HF.out
              have hR14 := (hb14.block w.heap.size HRl).trans HRS.out
              obtain ⟨d0, d1, d2, d3, d4, dz⟩ := fbox_cells hF14
              obtain ⟨r0, r1, r2, r3, r4, rz⟩ := fbox_cells hR14
              simp only at r0 r1 r2 r3 r4
              have hRl14 := box_lt hR14
              have hT14 : Below w.heap.size w w14 := hTw.trans (hb14.mono hTw.size)
              by_cases heq : G = bL s
              · have hRR2 : (RF, RB) = (f, true) := by rw [HRR.out, if_pos (by rw [← HFS.out, hG, heq]), ← HFS.out]
                simp only [Prod.mk.injEq] at hRR2
                obtain ⟨rfl, rfl⟩ := hRR2
                have e1 : ((⟨G.toArray⟩ : ByteArray).toList == s.toList) = true := by rw [heq, ← str_of_bL]; simp
                have e2 : (G == s.toList) = true := by rw [ByteArray.toList_eq, heq]; simp [bL]
                clear heq hG hft HF HFS hF14 hR14 c0 c1 c2 c3 c4 fz
                go_wp2_with fail
                refine bodyPost_ret (v := .tuple #[RF.val, .bool true]) (by simp [results, Tryd.results16, go_sem, hRl14, r0, r1, r2, r3, r4]) rfl ⟨rfl, ((((hT14.setCell (Nat.le_refl _) _).setCell (Nat.le_refl _) _).setCell (Nat.le_refl _) _).setCell (Nat.le_refl _) _).setCell (Nat.le_refl _) _⟩
              · have hRR2 : (RF, RB) = (zeroR, false) := by rw [HRR.out, if_neg (by rw [← HFS.out, hG]; exact heq)]
                simp only [Prod.mk.injEq] at hRR2
                obtain ⟨rfl, rfl⟩ := hRR2
                have e1 : ((⟨G.toArray⟩ : ByteArray).toList == s.toList) = false := by rw [beq_bytes, decide_eq_false]; intro e; apply heq; have := congrArg bL e; simpa [bL] using this
                have e2 : (G == s.toList) = false := by rw [ByteArray.toList_eq, beq_eq_false_iff_ne]; exact heq
                clear heq hG hft HF HFS hF14 hR14 c0 c1 c2 c3 c4 fz d0 d1 d2 d3 d4 dz
                go_wp2_with fail
                refine bodyPost_ret (v := .tuple #[zeroR.val, .bool false]) (by simp [results, Tryd.results16, go_sem, zeroR, hRl14, r0, r1, r2, r3, r4]) rfl ⟨rfl, ((((hT14.setCell (Nat.le_refl _) _).setCell (Nat.le_refl _) _).setCell (Nat.le_refl _) _).setCell (Nat.le_refl _) _).setCell (Nat.le_refl _) _⟩
def fwords (f : Fld) : List (List UInt8) := Lib.itoa f.number :: kindL f.kind :: ((if f.kind = 8 then [Lib.itoa f.msg] else []) ++ ((if f.rep = true then [repW] else []) ++ (if f.packed = true then [packW] else [])))
theorem itoa_nat {n : Int} (h : 0 ≤ n) : Lib.itoa n = Lib.decDigits n.toNat := by unfold Lib.itoa; rw [if_neg (by omega)]
theorem dec_neq {l : List UInt8} (h : Lib.decFrom 0 l = none) (v : Nat) : Lib.decDigits v ≠ l := fun e => by rw [← e, decFrom_dec] at h; cases h
theorem kind_nodec {k : Int} (h1 : 1 ≤ k) (h2 : k ≤ 8) : Lib.decFrom 0 (kindL k) = none := by rcases eightK h1 h2 with rfl | rfl | rfl | rfl | rfl | rfl | rfl | rfl <;> rfl
theorem nodec_num {l : List UInt8} (h : Lib.decFrom 0 l = none) (N : Nat) : numUpto N l = none := by simp only [numUpto, h]
theorem kf_dec (v : Nat) (k0 : Int) : kf (Lib.decDigits v) 8 k0 = k0 := by
  have h : ∀ j : Nat, 1 ≤ j → j ≤ 8 → ¬ Lib.decDigits v = kindL (j : Int) := fun j h1 h2 => dec_neq (kind_nodec (by omega) (by omega)) v
  simp only [kf]
  rw [if_neg (h 8 (by omega) (by omega)), if_neg (h 7 (by omega) (by omega)), if_neg (h 6 (by omega) (by omega)), if_neg (h 5 (by omega) (by omega)), if_neg (h 4 (by omega) (by omega)), if_neg (h 3 (by omega) (by omega)), if_neg (h 2 (by omega) (by omega)), if_neg (h 1 (by omega) (by omega))]
theorem kf_kind {k : Int} (h1 : 1 ≤ k) (h2 : k ≤ 8) (k0 : Int) : kf (kindL k) 8 k0 = k := by rcases eightK h1 h2 with rfl | rfl | rfl | rfl | rfl | rfl | rfl | rfl <;> rfl
theorem kf_rep (k0 : Int) : kf repW 8 k0 = k0 := rfl
theorem kf_pack (k0 : Int) : kf packW 8 k0 = k0 := rfl
theorem kind_norep {k : Int} (h1 : 1 ≤ k) (h2 : k ≤ 8) : ¬ kindL k = repW ∧ ¬ kindL k = packW := by rcases eightK h1 h2 with rfl | rfl | rfl | rfl | rfl | rfl | rfl | rfl <;> exact ⟨by decide, by decide⟩
theorem rep_nodec : Lib.decFrom 0 repW = none := rfl
theorem pack_nodec : Lib.decFrom 0 packW = none := rfl
theorem numD_dec {v : Nat} (h : v ≤ 999999999) : numD (Lib.decDigits v) = v := by rw [numD, numUpto_yes h]; rfl
theorem stepS_kind {f : Fld} {k : Int} (h1 : 1 ≤ k) (h2 : k ≤ 8) : stepS f (kindL k) = ⟨f.number, k, f.rep, f.packed, f.msg⟩ := by
  obtain ⟨a, b⟩ := kind_norep h1 h2
  rw [stepS, kf_kind h1 h2, nodec_num (kind_nodec h1 h2), decide_eq_false a, decide_eq_false b, Bool.or_false, Bool.or_false]
theorem stepS_num {f : Fld} {v : Nat} (h : v ≤ 999999999) : stepS f (Lib.decDigits v) = ⟨f.number, f.kind, f.rep, f.packed, v⟩ := by
  rw [stepS, kf_dec, numUpto_yes h, decide_eq_false (dec_neq rep_nodec v), decide_eq_false (dec_neq pack_nodec v), Bool.or_false, Bool.or_false]
theorem stepS_rep {f : Fld} : stepS f repW = ⟨f.number, f.kind, true, f.packed, f.msg⟩ := by
  rw [stepS, kf_rep, nodec_num rep_nodec, decide_eq_true rfl, decide_eq_false (by decide), Bool.or_true, Bool.or_false]
theorem stepS_pack {f : Fld} : stepS f packW = ⟨f.number, f.kind, f.rep, true, f.msg⟩ := by
  rw [stepS, kf_pack, nodec_num pack_nodec, decide_eq_true rfl, decide_eq_false (by decide), Bool.or_true, Bool.or_false]
theorem stepI_num {f : Fld} {v : Nat} (h : v ≤ 999999999) : stepI f (Lib.decDigits v) = ⟨f.number, f.kind, f.rep, f.packed, v⟩ := by
  rw [stepI, if_neg (dec_neq rep_nodec v), if_neg (dec_neq pack_nodec v), numD_dec h]
theorem stepI_rep {f : Fld} : stepI f repW = ⟨f.number, f.kind, true, f.packed, f.msg⟩ := rfl
theorem stepI_pack {f : Fld} : stepI f packW = ⟨f.number, f.kind, f.rep, true, f.msg⟩ := by rw [stepI, if_neg (by decide), if_pos rfl]
theorem okT_parts {f : Fld} (h : fieldOkT f = true) : (1 ≤ f.number ∧ f.number ≤ 536870911) ∧ (1 ≤ f.kind ∧ f.kind ≤ 8) ∧ ((f.kind = 8 ∧ 1 ≤ f.msg ∧ f.msg ≤ 99) ∨ (f.kind ≠ 8 ∧ f.msg = 0)) := by
  simp only [fieldOkT, Bool.and_eq_true, inB, decide_eq_true_eq] at h
  obtain ⟨h1, h2, h3⟩ := h
  refine ⟨h1, h2, ?_⟩
  by_cases h8 : f.kind = 8
  · rw [if_pos h8] at h3; exact .inl ⟨h8, by simpa using h3⟩
  · rw [if_neg h8] at h3; exact .inr ⟨h8, by simpa using h3⟩
theorem specP_words {f : Fld} (h : fieldOkT f = true) : specP (fwords f) = f := by
  obtain ⟨⟨h1, h2⟩, ⟨k1, k2⟩, hm⟩ := okT_parts h
  obtain ⟨n, k, rp, pk, m⟩ := f
  simp only at h1 h2 k1 k2 hm
  have e1 : numD (Lib.itoa n) = n := by rw [itoa_nat (by omega), numD_dec (by omega)]; omega
  rcases hm with ⟨h8, m1, m2⟩ | ⟨h8, rfl⟩
  · have em : ∀ g : Fld, stepS g (Lib.itoa m) = ⟨g.number, g.kind, g.rep, g.packed, m⟩ := fun g => by
      rw [itoa_nat (by omega), stepS_num (by omega), show ((m.toNat : Nat) : Int) = m by omega]
    subst h8
    cases rp <;> cases pk <;> simp [specP, fwords, e1, stepS_kind, em, stepS_rep, stepS_pack]
  · cases rp <;> cases pk <;> simp [specP, fwords, e1, stepS_kind k1 k2, h8, stepS_rep, stepS_pack]
theorem implP_words {f : Fld} (h : fieldOkT f = true) : implP (Lib.itoa f.number) (kindL f.kind) ((if f.kind = 8 then [Lib.itoa f.msg] else []) ++ ((if f.rep = true then [repW] else []) ++ (if f.packed = true then [packW] else []))) = f := by
  obtain ⟨⟨h1, h2⟩, ⟨k1, k2⟩, hm⟩ := okT_parts h
  obtain ⟨n, k, rp, pk, m⟩ := f
  simp only at h1 h2 k1 k2 hm ⊢
  have e1 : numD (Lib.itoa n) = n := by rw [itoa_nat (by omega), numD_dec (by omega)]; omega
  rcases hm with ⟨h8, m1, m2⟩ | ⟨h8, rfl⟩
  · have em : ∀ g : Fld, stepI g (Lib.itoa m) = ⟨g.number, g.kind, g.rep, g.packed, m⟩ := fun g => by
      rw [itoa_nat (by omega), stepI_num (by omega), show ((m.toNat : Nat) : Int) = m by omega]
    subst h8
    cases rp <;> cases pk <;> simp [implP, e1, kf_kind, em, stepI_rep, stepI_pack]
  · cases rp <;> cases pk <;> simp [implP, e1, kf_kind k1 k2, h8, stepI_rep, stepI_pack]
theorem dec_free (u : Nat) : ∀ b ∈ Lib.decDigits u, 48 ≤ b.toNat ∧ b.toNat ≤ 57 := by
  induction u using Nat.strongRecOn with
  | _ u ih =>
    by_cases h : u < 10
    · rw [dec_lt h]; intro b hb; rw [List.mem_singleton] at hb; subst hb
      have : (UInt8.ofNat (48 + u)).toNat = 48 + u := by rw [UInt8.toNat_ofNat']; omega
      omega
    · rw [dec_ge h]; intro b hb
      rcases List.mem_append.1 hb with hb | hb
      · exact ih (u / 10) (by omega) b hb
      · rw [List.mem_singleton] at hb; subst hb
        have : (UInt8.ofNat (48 + u % 10)).toNat = 48 + u % 10 := by rw [UInt8.toNat_ofNat']; omega
        omega
theorem itoa_free {n : Int} (h : 0 ≤ n) : ∀ b ∈ Lib.itoa n, 48 ≤ b.toNat ∧ b.toNat ≤ 57 := by rw [itoa_nat h]; exact dec_free _
theorem kind_free {k : Int} (h1 : 1 ≤ k) (h2 : k ≤ 8) : ∀ b ∈ kindL k, 97 ≤ b.toNat ∧ b.toNat ≤ 122 := by rcases eightK h1 h2 with rfl | rfl | rfl | rfl | rfl | rfl | rfl | rfl <;> decide
theorem rep_free : ∀ b ∈ repW, 97 ≤ b.toNat ∧ b.toNat ≤ 122 := by decide
theorem pack_free : ∀ b ∈ packW, 97 ≤ b.toNat ∧ b.toNat ≤ 122 := by decide
theorem fwords_free {f : Fld} (h : fieldOkT f = true) : ∀ w ∈ fwords f, ∀ b ∈ w, 48 ≤ b.toNat ∧ b.toNat ≠ 58 ∧ b.toNat ≠ 59 := by
  obtain ⟨⟨h1, h2⟩, ⟨k1, k2⟩, hm⟩ := okT_parts h
  intro w hw b hb
  simp only [fwords, List.mem_cons, List.mem_append] at hw
  rcases hw with rfl | rfl | hw | hw | hw
  · have := itoa_free (by omega) b hb; omega
  · have := kind_free k1 k2 b hb; omega
  · rcases hm with ⟨h8, m1, m2⟩ | ⟨h8, hm⟩
    · rw [if_pos h8, List.mem_singleton] at hw; subst hw; have := itoa_free (by omega) b hb; omega
    · rw [if_neg h8] at hw; cases hw
  · split at hw
    · rw [List.mem_singleton] at hw; subst hw; have := rep_free b hb; omega
    · cases hw
  · split at hw
    · rw [List.mem_singleton] at hw; subst hw; have := pack_free b hb; omega
    · cases hw
theorem fieldL_join {f : Fld} (h : fieldOkT f = true) : fieldL f = Lib.join (fwords f) [32] := by
  rw [fieldL_ok h]
  obtain ⟨n, k, rp, pk, m⟩ := f
  simp only [fwords]
  by_cases h8 : k = 8
  · cases rp <;> cases pk <;> simp [h8, Lib.join_cons, Lib.joinTail, repW, packW]
  · cases rp <;> cases pk <;> simp [h8, Lib.join_cons, Lib.joinTail, repW, packW]
theorem fwords_ne (f : Fld) : fwords f ≠ [] := by simp [fwords]
theorem fwords_len (f : Fld) : (fwords f).length ≤ 5 := by
  simp only [fwords, List.length_cons, List.length_append]
  split <;> split <;> split <;> simp
theorem partsL_field {f : Fld} (h : fieldOkT f = true) : partsL 32 (fieldL f) = fwords f := by
  rw [fieldL_join h]
  exact partsL_join (fwords_ne f) fun w hw b hb e => by have := fwords_free h w hw b hb; rw [e] at this; exact absurd this.1 (by decide)
theorem splitL_field {f : Fld} (h : fieldOkT f = true) : splitL 6 (fieldL f) 32 = fwords f := by
  have h1 := partsL_len 32 (fieldL f)
  rw [partsL_field h] at h1
  have h2 := fwords_len f
  rw [splitL]
  obtain ⟨K, hK⟩ : ∃ K, min 6 ((fieldL f).length + 1) - 1 = K := ⟨_, rfl⟩
  rw [hK, fieldL_join h]
  exact splitK_join (fwords_ne f) (by omega) fun w hw b hb e => by have := fwords_free h w hw b hb; rw [e] at this; exact absurd this.1 (by decide)
theorem dec_lenT (k u : Nat) (h1 : 1 ≤ k) (h2 : u < 10 ^ k) : (Lib.decDigits u).length ≤ k := by rw [Lib.decDigits_length]; exact nDig_le k u h1 h2
theorem fieldL_short {f : Fld} (h : fieldOkT f = true) : 1 ≤ (fieldL f).length ∧ (fieldL f).length ≤ 34 := by
  obtain ⟨⟨h1, h2⟩, ⟨k1, k2⟩, hm⟩ := okT_parts h
  rw [fieldL_ok h]
  have a1 : (Lib.itoa f.number).length ≤ 9 := by rw [itoa_nat (by omega)]; exact dec_lenT 9 _ (by omega) (by omega)
  have a2 : (kindL f.kind).length ≤ 5 := kindL_len _
  have a3 : (if f.kind = 8 then [(32 : UInt8)] ++ Lib.itoa f.msg else []).length ≤ 3 := by
    rcases hm with ⟨h8, m1, m2⟩ | ⟨h8, hm⟩
    · rw [if_pos h8, itoa_nat (by omega), List.length_append]
      have := dec_lenT 2 f.msg.toNat (by omega) (by omega)
      simp; omega
    · rw [if_neg h8]; simp
  have a4 : (if f.rep = true then [32, 114, 101, 112, 101, 97, 116, 101, 100] else ([] : List UInt8)).length ≤ 9 := by split <;> simp
  have a5 : (if f.packed = true then [32, 112, 97, 99, 107, 101, 100] else ([] : List UInt8)).length ≤ 7 := by split <;> simp
  simp only [List.length_append] at a3 ⊢
  simp only [List.length_cons, List.length_nil] at a3 ⊢
  omega
theorem readS_of {f : Fld} (h : fieldOkT f = true) : readS (fieldL f) = (f, true) := by
  have := fieldL_short h
  rw [readS, if_neg (by omega), partsL_field h, specP_words h, if_pos rfl]
theorem readI_of {f : Fld} (h : fieldOkT f = true) : readI (fieldL f) = (f, true) := by
  rw [readI, splitL_field h, fwords, readW, implP_words h, if_pos rfl]
theorem okT_of_ne {f : Fld} {l : List UInt8} (h : fieldL f = l) (hl : l ≠ []) : fieldOkT f = true := by
  cases ho : fieldOkT f with
  | true => rfl
  | false => rw [fieldL_bad ho] at h; exact absurd h.symm hl
theorem readI_nil : readI [] = (zeroR, false) := rfl
theorem readS_not {l : List UInt8} (h : ∀ f, fieldOkT f = true → fieldL f ≠ l) : readS l = (zeroR, false) := by
  rw [readS]
  split
  · rfl
  · rename_i hl
    rw [if_neg]
    intro e
    exact h _ (okT_of_ne e (by intro e0; apply hl; rw [e0]; exact .inl rfl)) e
theorem readI_not {l : List UInt8} (h : ∀ f, fieldOkT f = true → fieldL f ≠ l) : readI l = (zeroR, false) := by
  by_cases hl : l = []
  · rw [hl]; exact readI_nil
  · rw [readI]
    generalize splitL 6 l 32 = ws
    match ws with
    | [] => rfl
    | [x] => rfl
    | x0 :: x1 :: ws =>
      rw [readW, if_neg]
      intro e
      exact h _ (okT_of_ne e hl) e
theorem read_same (l : List UInt8) : readI l = readS l := by
  by_cases h : ∃ f, fieldOkT f = true ∧ fieldL f = l
  · obtain ⟨f, hf, rfl⟩ := h; rw [readI_of hf, readS_of hf]
  · have h' : ∀ f, fieldOkT f = true → fieldL f ≠ l := fun f hf e => h ⟨f, hf, e⟩
    rw [readI_not h', readS_not h']
end Go.Proofs.YtbpilecgnfnndaaDoor
namespace Go.Proofs.YtbpilecgnfnndaaDoor
open Go
theorem wrap_laid {H : Type} {enc : TypeId × Value → H} {C : Checked} {os : Os} {f : FuncId} {fn : Func} {s : ChangeSpec} {conds : List PathCond} {X : World → Prop}
    (hX : ∀ w w' : World, w.heap = w'.heap → X w → X w') (own : ownKnob C.prog.godebug = none) (started : os.Started) (noInit : C.prog.inits.idxOf? f = none) (hfn : C.prog.funcs[f]? = some fn)
    (wit : ∃ (w : World) (tape : Tape) (i : Input), w.os = os ∧ (w.forCall tape i).Shaped C.prog ∧ i.vars = [] ∧ Input.okWide C.prog (w.forCall tape i) .any w.heap.size f i ∧
      ((s.pre enc C.prog fn conds false (w.forCall tape i).memory i.args ∧ X (w.forCall tape i).memory) ∧ sizedMet enc C.prog fn (OpenSpec.ofChange s) false (w.forCall tape i).memory i.args) ∧ ({} : Assume).holds C.prog (lone (Frame.enter C.prog f i.args .normal) [] (w.forCall tape i)))
    (contract : ∀ (W : World) (base : Nat) (args : Array Value) (ds gs : List (DataW H)) (before : List MemPlace),
      (∀ (j : Nat) t v, fn.params[j]? = some t → args[j]? = some v → Value.okWide C.prog W .any base t v) → DataW.Whole enc C.prog fn.params.toList s.vars false W args.toList ds gs before →
      conds.all (PathCond.test C.prog ⟨fn.params.toList, ds, s.plain.varTypes C.prog, gs⟩) = true → (DataW.weightsEach C.prog (fn.params.toList ++ s.plain.varTypes C.prog) (ds ++ gs)).all (· ≤ reachBytes) = true → X W → W.ShapedOpen C.prog →
      Calls C.prog f args W fun e W' => ∃ v, e = .returned v ∧ s.post enc C.prog fn false true false false W args v W') :
    ReturnsInHanded {} C os f .any (fun w args => (s.pre enc C.prog fn conds false w args ∧ X w) ∧ sizedMet enc C.prog fn (OpenSpec.ofChange s) false w args) (s.post enc C.prog fn false true false false) := by
  refine returnsInHanded_of_calls own started noInit wit ?_
  intro w tape i _ hsh _ hok hpre _
  obtain ⟨_, _, _, fn', hfn', _, _, _, _, hval⟩ := hok
  obtain rfl : fn' = fn := Option.some.inj (hfn'.symm.trans hfn)
  obtain ⟨⟨⟨ds, gs, before, hw, hc⟩, hx⟩, hz⟩ := hpre
  refine (contract _ w.heap.size i.args ds gs before hval (DataW.Whole.of_heap (w' := w.forCall tape i) (by rfl) hw) hc (hz.weights hw) (hX _ _ (by rfl) hx) hsh).mono fun e W' ⟨v, he, hp⟩ => ?_
  subst he
  exact ChangeSpec.post_blind hp
end Go.Proofs.YtbpilecgnfnndaaDoor

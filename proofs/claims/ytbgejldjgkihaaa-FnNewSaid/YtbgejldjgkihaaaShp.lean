/- Shapes: rows of an id and a slice of fields; schemas. What the laws' own functions do with them. -/
import Derived.Test.YtbgejldjgkihaaaFlds
namespace Go.Proofs.Ytbgejldjgkihaaa
set_option linter.unusedSimpArgs false
set_option linter.unusedVariables false
open Go.ChangeShapes Go.WideShapes Go.ChangeAt Go.RowKit Go.BigFrame

structure Shp where
  id : Int
  flds : List Fld
  deriving DecidableEq
/-- A shape's row as it stands in memory. -/
structure ShR where
  id : Int
  a : Option Addr
  n : Nat
  cap : Nat
@[reducible] def ShR.cs (r : ShR) : List Value := [.int .i64 r.id, .slice r.a r.n r.cap]
theorem shR_len (r : ShR) : r.cs.length = 2 := rfl
/-- The slice that starts at 'a' holds these shapes. -/
def Shs (w : World) (a : Option Addr) (xs : List Shp) : Prop :=
  ∀ (k : Nat) (x : Shp), xs[k]? = some x → ∃ b off a' cap', a = some ⟨b, off, none⟩ ∧ b < w.heap.size ∧ w.cell? ⟨b, off + k * 2, none⟩ = some (.int .i64 x.id) ∧ w.cell? ⟨b, off + k * 2 + 1, none⟩ = some (.slice a' x.flds.length cap') ∧ Flds w a' x.flds
section
variable {w w' : World} {a : Option Addr} {xs : List Shp}
theorem Shs.below {B : Nat} (h : Shs w a xs) (hb : Below B w w') (hB : w.heap.size ≤ B) : Shs w' a xs := by
  intro k x hx
  obtain ⟨b, off, a', cap', ha, hlt, c0, c1, hf⟩ := h k x hx
  exact ⟨b, off, a', cap', ha, Nat.lt_of_lt_of_le hlt hb.size, (hb.cell (p := ⟨b, _, none⟩) (Nat.lt_of_lt_of_le hlt hB)).trans c0, (hb.cell (p := ⟨b, _, none⟩) (Nat.lt_of_lt_of_le hlt hB)).trans c1, hf.below hb hB⟩
theorem Shs.keep (h : Shs w a xs) (hb : Below w.heap.size w w') : Shs w' a xs := h.below hb (Nat.le_refl _)
end
/-- How many fields. -/
def fldSum (xs : List Shp) : Nat := (xs.map fun x => x.flds.length).sum
def szS (n : Int) (xs : List Shp) : Int := if n < (xs.length : Int) + fldSum xs then -1 else n - xs.length - fldSum xs
theorem fldSum_snoc {xs : List Shp} {k : Nat} {e : Shp} (he : xs[k]? = some e) : fldSum (xs.take (k + 1)) = fldSum (xs.take k) + e.flds.length := by
  rw [List.take_add_one, he]; simp [fldSum]
theorem fldSum_take (xs : List Shp) (k : Nat) : fldSum (xs.take k) ≤ fldSum xs := by
  have : fldSum xs = fldSum (xs.take k) + fldSum (xs.drop k) := by
    simp only [fldSum, ← List.sum_append, ← List.map_append, List.take_append_drop]
  omega
theorem fldSum_ge {xs : List Shp} {k : Nat} {e : Shp} (he : xs[k]? = some e) : e.flds.length ≤ fldSum xs := by
  have h1 := fldSum_snoc he
  have h2 := fldSum_take xs (k + 1)
  omega
/-- Shapes of a schema that came in. -/
structure ShpOk (x : Shp) : Prop where
  id : W64 x.id
  n : x.flds.length ≤ maxLen
  flds : ∀ f ∈ x.flds, f.ok

/-! ### sizes -/

/-! ### shapes in memory of the call's own -/
/-- The row 'r' is the shape 'x', its fields in memory of the call's own. -/
def RowIs (w : World) (base : Nat) (TF : TypeId) (r : ShR) (x : Shp) : Prop := r.id = x.id ∧ r.n = x.flds.length ∧ w.ownsRow base TF 5 (.slice r.a r.n r.cap) r.n (x.flds.flatMap Fld.cs)
/-- The rows' arrays are apart. -/
def Apart (rs : List ShR) : Prop := ∀ (i j : Nat) (r s : ShR), rs[i]? = some r → rs[j]? = some s → i ≠ j → ∀ g, (Value.slice r.a r.n r.cap).ownBlock = some g → (Value.slice s.a s.n s.cap).ownBlock ≠ some g
structure OwnShs (w : World) (base : Nat) (T TF : TypeId) (v : Value) (n : Nat) (rs : List ShR) (xs : List Shp) : Prop where
  len : rs.length = n
  lenx : xs.length = n
  outer : w.ownsRow base T 2 v n (rs.flatMap ShR.cs)
  each : ∀ (k : Nat) (r : ShR) (x : Shp), rs[k]? = some r → xs[k]? = some x → RowIs w base TF r x
  apart : Apart rs
theorem Apart.nil : Apart [] := fun i j r s h => by simp at h
theorem Apart.snoc {rs : List ShR} {r : ShR} (h : Apart rs) (hr : ∀ (i : Nat) (s : ShR), rs[i]? = some s → ∀ g, (Value.slice s.a s.n s.cap).ownBlock = some g → (Value.slice r.a r.n r.cap).ownBlock ≠ some g) : Apart (rs ++ [r]) := by
  intro i j x y hx hy hij g hg hg'
  rcases Nat.lt_trichotomy i rs.length with hi | hi | hi
  · rw [List.getElem?_append_left hi] at hx
    rcases Nat.lt_trichotomy j rs.length with hj | hj | hj
    · rw [List.getElem?_append_left hj] at hy
      exact h i j x y hx hy hij g hg hg'
    · rw [List.getElem?_append_right (by omega), hj] at hy
      simp at hy; subst hy
      exact hr i x hx g hg hg'
    · rw [List.getElem?_eq_none (by simp; omega)] at hy; simp at hy
  · rw [List.getElem?_append_right (by omega), hi] at hx
    simp at hx; subst hx
    rcases Nat.lt_trichotomy j rs.length with hj | hj | hj
    · rw [List.getElem?_append_left hj] at hy
      exact hr j y hy g hg' hg
    · omega
    · rw [List.getElem?_eq_none (by simp; omega)] at hy; simp at hy
  · rw [List.getElem?_eq_none (by simp; omega)] at hx; simp at hx
theorem RowIs.below {w w' : World} {B base : Nat} {TF : TypeId} {r : ShR} {x : Shp} (h : RowIs w base TF r x) (hb : Below B w w') (hB : w.heap.size ≤ B) : RowIs w' base TF r x :=
  ⟨h.1, h.2.1, owns_below h.2.2 hb hB⟩
theorem OwnShs.below {w w' : World} {B base : Nat} {T TF : TypeId} {v : Value} {n : Nat} {rs : List ShR} {xs : List Shp} (h : OwnShs w base T TF v n rs xs) (hb : Below B w w') (hB : w.heap.size ≤ B) : OwnShs w' base T TF v n rs xs :=
  ⟨h.len, h.lenx, owns_below h.outer hb hB, fun k r x hr hx => (h.each k r x hr hx).below hb hB, h.apart⟩
theorem OwnShs.shs {w : World} {base : Nat} {T TF : TypeId} {a : Option Addr} {n cap : Nat} {rs : List ShR} {xs : List Shp} (h : OwnShs w base T TF (.slice a n cap) n rs xs) : Shs w a xs := by
  intro k x hx
  have hk : k < xs.length := by
    rcases Nat.lt_or_ge k xs.length with h | h
    · exact h
    · rw [List.getElem?_eq_none h] at hx; simp at hx
  have hkr : k < rs.length := by rw [h.len, ← h.lenx]; exact hk
  obtain ⟨a1, cap1, e, _, _, hs⟩ := Sl.of_owns shR_len h.outer h.len
  simp only [Value.slice.injEq] at e
  obtain ⟨rfl, _, rfl⟩ := e
  obtain ⟨b, off, ha, hlt, hc⟩ := hs k rs[k] (List.getElem?_eq_getElem hkr)
  obtain ⟨h1, h2, h3⟩ := h.each k rs[k] x (List.getElem?_eq_getElem hkr) hx
  have c0 := hc 0 _ rfl
  have c1 := hc 1 _ rfl
  rw [h1] at c0
  rw [h2] at c1
  exact ⟨b, off, rs[k].a, rs[k].cap, ha, hlt, c0, c1, by rw [h2] at h3; exact flds_of_own h3 rfl⟩
theorem RowIs.set {w : World} {base : Nat} {TF : TypeId} {r : ShR} {x : Shp} (h : RowIs w base TF r x) {p : Addr} (hp : p.block < base) (u : Value) : RowIs (w.setCell p u) base TF r x := ⟨h.1, h.2.1, owns_set h.2.2 hp u⟩
theorem OwnShs.set {w : World} {base : Nat} {T TF : TypeId} {v : Value} {n : Nat} {rs : List ShR} {xs : List Shp} (h : OwnShs w base T TF v n rs xs) {p : Addr} (hp : p.block < base) (u : Value) : OwnShs (w.setCell p u) base T TF v n rs xs :=
  ⟨h.len, h.lenx, owns_set h.outer hp u, fun k r x hr hx => (h.each k r x hr hx).set hp u, h.apart⟩
theorem OwnShs.setRow {w : World} {base b : Nat} {T TF : TypeId} {v : Value} {n : Nat} {rs : List ShR} {xs : List Shp} (h : OwnShs w base T TF v n rs xs) (hb : b < base) (cs : Array Value) : OwnShs (w.setRow b cs) base T TF v n rs xs :=
  ⟨h.len, h.lenx, owns_setRow h.outer hb cs, fun k r x hr hx => ⟨(h.each k r x hr hx).1, (h.each k r x hr hx).2.1, owns_setRow (h.each k r x hr hx).2.2 hb cs⟩, h.apart⟩
theorem OwnShs.le {w : World} {base b' : Nat} {T TF : TypeId} {v : Value} {n : Nat} {rs : List ShR} {xs : List Shp} (h : OwnShs w base T TF v n rs xs) (hb : b' ≤ base) : OwnShs w b' T TF v n rs xs :=
  ⟨h.len, h.lenx, owns_le h.outer hb, fun k r x hr hx => ⟨(h.each k r x hr hx).1, (h.each k r x hr hx).2.1, owns_le (h.each k r x hr hx).2.2 hb⟩, h.apart⟩
def FreshShs (w : World) (T TF : TypeId) (n : Nat) (xs : List Shp) (r : Ending) (w' : World) : Prop :=
  ∃ a cap rs, r = .returned (.slice a n cap) ∧ OwnShs w' w.heap.size T TF (.slice a n cap) n rs xs ∧ Below w.heap.size w w'
def FreshSch (w : World) (T TF : TypeId) (n : Nat) (xs : List Shp) (r : Ending) (w' : World) : Prop :=
  ∃ a cap rs, r = .returned (.agg #[.slice a n cap]) ∧ OwnShs w' w.heap.size T TF (.slice a n cap) n rs xs ∧ Below w.heap.size w w'
def FreshShp (w : World) (TF : TypeId) (id : Int) (xs : List Fld) (r : Ending) (w' : World) : Prop :=
  ∃ a cap, r = .returned (.agg #[.int .i64 id, .slice a xs.length cap]) ∧ w'.ownsRow w.heap.size TF 5 (.slice a xs.length cap) xs.length (xs.flatMap Fld.cs) ∧ Below w.heap.size w w'
/-- What a row of cells holds up to k, one more shape put in. -/
theorem ShR.store {w : World} {base g cap n : Nat} {t : TypeId} {L : List Value} (h : w.ownsRow base t 2 (.slice (some ⟨g, 0, none⟩) n cap) n L) (k : Nat) (r : ShR) :
    ((w.setCell ⟨g, k * 2, none⟩ (.int .i64 r.id)).setCell ⟨g, k * 2 + 1, none⟩ (.slice r.a r.n r.cap)).ownsRow base t 2 (.slice (some ⟨g, 0, none⟩) n cap) n (setRow L (k * 2) r.cs) := by
  have h0 := (h.stored (k * 2) (.int .i64 r.id)).1
  exact (h0.stored (k * 2 + 1) (.slice r.a r.n r.cap)).1
/-- The first rows stand; the rest is still to come. -/
structure Filling (w : World) (base : Nat) (T TF : TypeId) (v : Value) (n k : Nat) (L : List Value) (rs : List ShR) (xs : List Shp) : Prop where
  len : rs.length = k
  outer : w.ownsRow base T 2 v n L
  head : L.take (k * 2) = rs.flatMap ShR.cs
  each : ∀ (i : Nat) (r : ShR) (x : Shp), rs[i]? = some r → xs[i]? = some x → RowIs w base TF r x
  apart : Apart rs
  old : ∀ (i : Nat) (r : ShR), rs[i]? = some r → ∀ g, (Value.slice r.a r.n r.cap).ownBlock = some g → g < w.heap.size
theorem Filling.step {w w1 : World} {base g n cap k : Nat} {T TF : TypeId} {L : List Value} {rs : List ShR} {xs : List Shp} (h : Filling w base T TF (.slice (some ⟨g, 0, none⟩) n cap) n k L rs xs)
    (hb : Below w.heap.size w w1) (hne : T ≠ TF) (hbase : base ≤ w.heap.size) {x : Shp} (hx : xs[k]? = some x) (hk : k < n) {a : Option Addr} {c : Nat}
    (hr : w1.ownsRow w.heap.size TF 5 (.slice a x.flds.length c) x.flds.length (x.flds.flatMap Fld.cs)) :
    ∃ L' rs', Filling ((w1.setCell ⟨g, k * 2, none⟩ (.int .i64 x.id)).setCell ⟨g, k * 2 + 1, none⟩ (.slice a x.flds.length c)) base T TF (.slice (some ⟨g, 0, none⟩) n cap) n (k + 1) L' rs' xs := by
  have ho1 := owns_below h.outer hb (Nat.le_refl _)
  have hst := ShR.store ho1 k ⟨x.id, a, x.flds.length, c⟩
  have far : ∀ {r : ShR} {y : Shp}, RowIs w1 base TF r y → RowIs ((w1.setCell ⟨g, k * 2, none⟩ (.int .i64 x.id)).setCell ⟨g, k * 2 + 1, none⟩ (.slice a x.flds.length c)) base TF r y := by
    intro r y hry
    obtain ⟨e1, e2, e3⟩ := hry
    refine ⟨e1, e2, ?_⟩
    have hne' : (Value.slice r.a r.n r.cap).ownBlock ≠ some g := by
      intro hg
      obtain ⟨_, hlt⟩ := World.ownsRow.lt e3 g hg
      rcases e3.2 with ⟨e4, _⟩ | ⟨g1, c1, cur1, e4, _, hh1, _⟩
      · rw [e4] at hg; simp [Value.ownBlock] at hg
      · rw [e4] at hg
        simp [Value.ownBlock] at hg
        subst hg
        rcases ho1.2 with ⟨e5, _⟩ | ⟨g2, c2, cur2, e5, _, hh2, _⟩
        · simp at e5
        · simp only [Value.slice.injEq, Option.some.injEq, Addr.mk.injEq] at e5
          obtain ⟨⟨rfl, _, _⟩, _, _⟩ := e5
          rw [hh1] at hh2
          simp at hh2
          exact hne hh2.2.symm
    have k1 := e3.kept (ho1.stored (k * 2) (.int .i64 x.id)).2 (.inr hne')
    exact k1.kept ((ho1.stored (k * 2) (.int .i64 x.id)).1.stored (k * 2 + 1) (.slice a x.flds.length c)).2 (.inr hne')
  refine ⟨_, rs ++ [⟨x.id, a, x.flds.length, c⟩], ?_, hst, ?_, ?_, ?_, ?_⟩
  · simp [h.len]
  · have hL := h.outer.1
    have := setRow_take (ShR.cs ⟨x.id, a, x.flds.length, c⟩) L (k * 2) (by simp only [List.length_cons, List.length_nil]; omega)
    simp only [List.length_cons, List.length_nil] at this
    rw [show (k + 1) * 2 = k * 2 + (0 + 1 + 1) by omega, this, h.head]
    simp
  · intro i r y hr' hy
    rcases Nat.lt_trichotomy i k with hi | hi | hi
    · rw [List.getElem?_append_left (by rw [h.len]; exact hi)] at hr'
      exact far ((h.each i r y hr' hy).below hb (Nat.le_refl _))
    · subst hi
      rw [List.getElem?_append_right (by rw [h.len]; omega), h.len] at hr'
      simp at hr'; subst hr'
      rw [hx] at hy; simp at hy; subst hy
      exact far ⟨rfl, rfl, owns_le hr hbase⟩
    · rw [List.getElem?_eq_none (by simp [h.len]; omega)] at hr'; simp at hr'
  · refine h.apart.snoc fun i s hs b hg hb' => ?_
    have h1 := h.old i s hs b hg
    obtain ⟨h2, _⟩ := World.ownsRow.lt hr b hb'
    omega
  · intro i r hr' b hg
    rcases Nat.lt_trichotomy i k with hi | hi | hi
    · rw [List.getElem?_append_left (by rw [h.len]; exact hi)] at hr'
      have := h.old i r hr' b hg
      have := hb.size
      simp only [World.size_setCell]; omega
    · subst hi
      rw [List.getElem?_append_right (by rw [h.len]; omega), h.len] at hr'
      simp at hr'; subst hr'
      obtain ⟨_, h2⟩ := World.ownsRow.lt hr b hg
      simpa using h2
    · rw [List.getElem?_eq_none (by simp [h.len]; omega)] at hr'; simp at hr'
theorem Filling.below {w w' : World} {B base : Nat} {T TF : TypeId} {v : Value} {n k : Nat} {L : List Value} {rs : List ShR} {xs : List Shp} (h : Filling w base T TF v n k L rs xs) (hb : Below B w w') (hB : w.heap.size ≤ B) : Filling w' base T TF v n k L rs xs :=
  ⟨h.len, owns_below h.outer hb hB, h.head, fun i r x hr hx => (h.each i r x hr hx).below hb hB, h.apart, fun i r hr g hg => Nat.lt_of_lt_of_le (h.old i r hr g hg) hb.size⟩
theorem Filling.own {w : World} {base : Nat} {T TF : TypeId} {v : Value} {n : Nat} {L : List Value} {rs : List ShR} {xs : List Shp} (h : Filling w base T TF v n n L rs xs) (hx : xs.length = n) : OwnShs w base T TF v n rs xs := by
  have hL := h.outer.1
  have h1 := h.head
  rw [List.take_of_length_le (by omega)] at h1
  exact ⟨h.len, hx, by rw [← h1]; exact h.outer, h.each, h.apart⟩
set_option maxHeartbeats 2000000 in
theorem eqShape_same (id : Int) (fs : List Fld) (n : Nat) (a a' : Option Addr) (cap cap' : Nat) (w : World) (h : Flds w a fs) (h' : Flds w a' fs) (hx : fs.length = n) (hn : n ≤ 1048576) :
    Calls Try.prog 133 #[.agg #[.int .i64 id, .slice a n cap], .agg #[.int .i64 id, .slice a' n cap']] w fun r w' => r = .returned (.bool true) ∧ Below w.heap.size w w' := by
  have HX := Lib.hid hx; clear hx
  have HS1 := Lib.hid h; clear h
  have HS2 := Lib.hid h'; clear h'
  go_enter Try.func133, Try.ntmps133
  go_wp2_with fail
  refine (eqFieldS_any _ _ _ _ _ _ fs fs _ (Sl.keep HS1.out (by ((repeat (first | (with_reducible exact Below.refl _ _) | (with_reducible assumption) | (with_reducible refine Below.alloc ?_ ?_ _) | (with_reducible refine Below.setCell ?_ ?_ _) | (with_reducible refine Below.drew ?_) | (with_reducible refine below_setRow ?_ ?_ _) | (refine Below.trans ?_ (Below.mono (by assumption) ?_)))); all_goals (first | omega | (simp; done) | (simp; omega))))) (Sl.keep HS2.out (by ((repeat (first | (with_reducible exact Below.refl _ _) | (with_reducible assumption) | (with_reducible refine Below.alloc ?_ ?_ _) | (with_reducible refine Below.setCell ?_ ?_ _) | (with_reducible refine Below.drew ?_) | (with_reducible refine below_setRow ?_ ?_ _) | (refine Below.trans ?_ (Below.mono (by assumption) ?_)))); all_goals (first | omega | (simp; done) | (simp; omega))))) HX.out HX.out hn hn).mono ?_
  rintro r w1 ⟨rfl, hb1⟩
  go_wp2
  go_ret
  exact ⟨rfl, by ((repeat (first | (with_reducible exact Below.refl _ _) | (with_reducible assumption) | (with_reducible refine Below.alloc ?_ ?_ _) | (with_reducible refine Below.setCell ?_ ?_ _) | (with_reducible refine Below.drew ?_) | (with_reducible refine below_setRow ?_ ?_ _) | (refine Below.trans ?_ (Below.mono (by assumption) ?_)))); all_goals (first | omega | (simp; done) | (simp; omega)))⟩
set_option maxHeartbeats 2000000 in
theorem eqShapeS_same (a a' : Option Addr) (cap cap' n : Nat) (xs : List Shp) (w : World) (h : Shs w a xs) (h' : Shs w a' xs) (hx : xs.length = n) (hn : n ≤ 1048576) (hm : fldSum xs ≤ 1048576) :
    Calls Try.prog 94 #[.slice a n cap, .slice a' n cap'] w fun r w' => r = .returned (.bool true) ∧ Below w.heap.size w w' := by
  have HX := Lib.hid hx; clear hx
  go_enter Try.func94, Try.ntmps94
  go_wp2
  go_loopw [4, 5] (fun t i wr => ∃ k : Nat, k ≤ n ∧ i = .int .i64 k ∧ t = .bool false ∧ Below w.heap.size w wr) (fun _ i _ => n - (intOf i).toNat)
  case atStart => exact ⟨0, Nat.zero_le _, rfl, rfl, Below.refl _ _⟩
  case round =>
    obtain ⟨k, hk, rfl, rfl, hb⟩ := hrel
    have hz := hb.size
    by_cases hlt : k < n
    · obtain ⟨e, he, _⟩ := at_lt (xs := xs) (k := k) (by rw [HX.out]; exact hlt)
      have HE := Lib.hid he
      have hne := Nat.le_trans (fldSum_ge he) hm
      obtain ⟨b, off, a1, cap1, rfl, hlb, c0, c1, hs1⟩ := h.below hb (Nat.le_refl _) k e he
      obtain ⟨b', off', a2, cap2, rfl, hlb', d0, d1, hs2⟩ := h'.below hb (Nat.le_refl _) k e he
      clear he
      have HS1 := Lib.hid hs1; clear hs1
      have HS2 := Lib.hid hs2; clear hs2
      go_wp2_with fail
      (refine wp_region_ext (by kernel_rfl) (by kernel_rfl) ?_; (repeat (go_big_quiet_step (first | (go_at_call 133; refine Calls.ext_of (eqShape_same _ _ _ _ _ _ _ _ (Sl.keep HS1.out (World.ext_below _ _)) (Sl.keep HS2.out (World.ext_below _ _)) rfl hne))))); refine wpQuiet_nil ?_; intro w1 hb1; obtain ⟨hc1, hf1⟩ := bcell hb1; have hz1 := hb1.size; (try simp only [World.size_alloc, World.size_setCell, World.size_drew] at hz1))
      go_wp2
      go_roundw
      case rel => exact ⟨k + 1, by omega, by go_num, rfl, by ((repeat (first | (with_reducible exact Below.refl _ _) | (with_reducible assumption) | (with_reducible refine Below.alloc ?_ ?_ _) | (with_reducible refine Below.setCell ?_ ?_ _) | (with_reducible refine Below.drew ?_) | (with_reducible refine below_setRow ?_ ?_ _) | (refine Below.trans ?_ (Below.mono (by assumption) ?_)))); all_goals (first | omega | (simp; done) | (simp; omega)))⟩
      case measure => simp [intOf]; omega
    · go_wp2
      go_ret
      exact ⟨rfl, hb⟩
set_option maxHeartbeats 2000000 in
theorem eqSchema_same (a a' : Option Addr) (cap cap' n : Nat) (xs : List Shp) (w : World) (h : Shs w a xs) (h' : Shs w a' xs) (hx : xs.length = n) (hn : n ≤ 1048576) (hm : fldSum xs ≤ 1048576) :
    Calls Try.prog 37 #[.agg #[.slice a n cap], .agg #[.slice a' n cap']] w fun r w' => r = .returned (.bool true) ∧ Below w.heap.size w w' := by
  have HX := Lib.hid hx; clear hx
  have HS1 := Lib.hid h; clear h
  have HS2 := Lib.hid h'; clear h'
  go_enter Try.func37, Try.ntmps37
  go_wp2_with fail
  refine (eqShapeS_same _ _ _ _ _ xs _ (HS1.out.keep (by ((repeat (first | (with_reducible exact Below.refl _ _) | (with_reducible assumption) | (with_reducible refine Below.alloc ?_ ?_ _) | (with_reducible refine Below.setCell ?_ ?_ _) | (with_reducible refine Below.drew ?_) | (with_reducible refine below_setRow ?_ ?_ _) | (refine Below.trans ?_ (Below.mono (by assumption) ?_)))); all_goals (first | omega | (simp; done) | (simp; omega))))) (HS2.out.keep (by ((repeat (first | (with_reducible exact Below.refl _ _) | (with_reducible assumption) | (with_reducible refine Below.alloc ?_ ?_ _) | (with_reducible refine Below.setCell ?_ ?_ _) | (with_reducible refine Below.drew ?_) | (with_reducible refine below_setRow ?_ ?_ _) | (refine Below.trans ?_ (Below.mono (by assumption) ?_)))); all_goals (first | omega | (simp; done) | (simp; omega))))) HX.out hn hm).mono ?_
  rintro r w1 ⟨rfl, hb1⟩
  go_wp2
  go_ret
  exact ⟨rfl, by ((repeat (first | (with_reducible exact Below.refl _ _) | (with_reducible assumption) | (with_reducible refine Below.alloc ?_ ?_ _) | (with_reducible refine Below.setCell ?_ ?_ _) | (with_reducible refine Below.drew ?_) | (with_reducible refine below_setRow ?_ ?_ _) | (refine Below.trans ?_ (Below.mono (by assumption) ?_)))); all_goals (first | omega | (simp; done) | (simp; omega)))⟩
end Go.Proofs.Ytbgejldjgkihaaa

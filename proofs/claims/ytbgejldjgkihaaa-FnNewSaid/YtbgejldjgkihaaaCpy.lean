/- Copies in new memory: rows of fields, rows of levels. -/
import Derived.Test.YtbgejldjgkihaaaMarkS
import Derived.Maps.AppendAt
namespace Go.Proofs.Ytbgejldjgkihaaa
set_option linter.unusedSimpArgs false
set_option linter.unusedVariables false
open Go.ChangeShapes Go.WideShapes Go.ChangeAt Go.RowKit Go.BigFrame
theorem info_Field : (Try.prog.info? 47).map (fun i => (i.zero, i.size, i.bytes)) = some (some (.agg #[.int .i64 0, .int .i64 0, .bool false, .bool false, .int .i64 0]), 5, 32) := by kernel_rfl
theorem info_Level : (Try.prog.info? 113).map (fun i => (i.zero, i.size, i.bytes)) = some (some (.agg #[.int .i64 0, .int .i64 0]), 2, 16) := by kernel_rfl

theorem sl_news {α : Type} {sz : Nat} {cs : α → List Value} {w : World} {ad : Addr} {xs : List α} (hsz : 0 < sz) (hcs : ∀ x, (cs x).length = sz) (h : Sl sz cs w (some ad) xs) :
    ∀ (j : Nat) (u : Value), (xs.flatMap cs)[j]? = some u → w.cell? (ad.add j) = some u := by
  intro j u hu
  have hj : j < xs.length * sz := by
    rcases Nat.lt_or_ge j (xs.length * sz) with h' | h'
    · exact h'
    · rw [List.getElem?_eq_none (by rw [flatMap_len hcs]; exact h')] at hu; simp at hu
  have hk : j / sz < xs.length := (Nat.div_lt_iff_lt_mul hsz).2 hj
  have hm : j % sz < sz := Nat.mod_lt _ hsz
  have hjj : j / sz * sz + j % sz = j := by rw [Nat.mul_comm]; exact Nat.div_add_mod j sz
  obtain ⟨e, he, _⟩ := at_lt hk
  obtain ⟨b, off, ha, _, hc⟩ := h _ e he
  simp only [Option.some.injEq] at ha; subst ha
  have h1 := flatMap_at hcs xs _ (j % sz) e he hm
  rw [hjj, hu] at h1
  have h2 := hc _ u h1.symm
  rw [Addr.add_lit, ← h2, Nat.add_assoc, hjj]
theorem own_built (w : World) (t : TypeId) (sz : Nat) : (w.alloc (.cells #[] t)).ownsRow w.heap.size t sz (.slice (some ⟨w.heap.size, 0, none⟩) 0 0) 0 [] :=
  ⟨by simp, .inr ⟨w.heap.size, 0, #[], rfl, Nat.le_refl _, heap_nth0 w _, Nat.le_refl _, Nat.zero_le _, by simp, by simp⟩⟩
theorem own_nilc {w : World} {base n cap size : Nat} {a : Option Addr} {t : TypeId} {xs : List Value} (h : w.ownsRow base t size (.slice a n cap) n xs) : a = none → cap = 0 := by
  intro ha
  subst ha
  rcases h.2 with ⟨e, h0⟩ | ⟨g, cap', cur, e, _⟩
  · simp only [Value.slice.injEq] at e; omega
  · simp at e
theorem own_sh {w : World} {base n size : Nat} {t : TypeId} {v : Value} {L : List Value} (h : w.ownsRow base t size v n L) : ∃ a cap, v = .slice a n cap ∧ w.ownsRow base t size (.slice a n cap) n L := by
  rcases h.2 with ⟨rfl, h0⟩ | ⟨g, cap', cur, rfl, _⟩
  · subst h0; exact ⟨none, 0, rfl, h⟩
  · exact ⟨_, _, rfl, h⟩
theorem grown_new {w w' : World} {o : Obj} {g : Nat} (h : (w.alloc o).grownBy w' (some g)) (hg : g = w.heap.size) : Below w.heap.size w w' :=
  ⟨h.os, h.tape, h.output, by have := h.size; simp at this; omega, fun k hk => (h.block k (by simp; omega) (by simp; omega)).trans (Below.heap_alloc w o k hk)⟩
theorem lvl_one (e : Lvl) : ∀ u ∈ e.cs, u.oneCell' = true := by
  intro u hu
  simp only [List.mem_cons, List.not_mem_nil, or_false] at hu
  rcases hu with rfl | rfl <;> rfl
theorem fld_one (e : Fld) : ∀ u ∈ e.cs, u.oneCell' = true := by
  intro u hu
  simp only [List.mem_cons, List.not_mem_nil, or_false] at hu
  rcases hu with rfl | rfl | rfl | rfl | rfl <;> rfl
theorem flat_one {α : Type} {cs : α → List Value} (h : ∀ e, ∀ u ∈ cs e, u.oneCell' = true) (xs : List α) : ∀ u ∈ xs.flatMap cs, u.oneCell' = true := by
  intro u hu
  obtain ⟨e, _, he⟩ := List.mem_flatMap.1 hu
  exact h e u he
theorem sl_none {α : Type} {sz : Nat} {cs : α → List Value} {w : World} {xs : List α} (h : Sl sz cs w none xs) : xs = [] := by
  cases xs with
  | nil => rfl
  | cons e l => obtain ⟨b, off, ha, _⟩ := h 0 e rfl; simp at ha

theorem eqn_Field (ad : Addr) (n cap : Nat) (w : World) : (binOp .eql 41 (.slice (some ad) n cap) (.slice none 0 0)).run Try.prog w = .ok (.bool false) w := by kernel_rfl
theorem eqn0_Field (w : World) : (binOp .eql 41 (.slice none 0 0) (.slice none 0 0)).run Try.prog w = .ok (.bool true) w := by kernel_rfl
set_option maxRecDepth 100000 in
set_option maxHeartbeats 1000000 in
theorem cloneFld_any (a : Option Addr) (cap n : Nat) (xs : List Fld) (w : World) (h : Flds w a xs) (hx : xs.length = n) (hn : n ≤ 1048578) (hnil : a = none → cap = 0) :
    Calls Try.prog 163 #[.slice a n cap] w (FreshRow w 47 5 n (xs.flatMap Fld.cs)) := by
  cases a with
  | none =>
    have h1 := sl_none h
    have h2 := hnil rfl
    subst h1; subst h2
    simp only [List.length_nil] at hx
    subst hx
    have hq := eqn0_Field
    go_enter Try.func163, Try.ntmps163
    go_wp2
    go_ret
    exact ⟨none, 0, rfl, World.ownsRow_nil _ _ _ _, Below.refl _ _⟩
  | some ad =>
    have HX := Lib.hid hx; clear hx
    have HS := Lib.hid h; clear h
    have hq := eqn_Field
    obtain ⟨i0, hi, hz0, hz1, hz2⟩ := info_parts info_Field
    have HB := Lib.hid (own_built w 47 5)
    have HN := Lib.hid (sl_news (cs := Fld.cs) (by omega) fld_len (Sl.keep HS.out (show Below w.heap.size w (w.alloc (.cells #[] 47)) by ((repeat (first | (with_reducible exact Below.refl _ _) | (with_reducible assumption) | (with_reducible refine Below.alloc ?_ ?_ _) | (with_reducible refine Below.setCell ?_ ?_ _) | (with_reducible refine Below.drew ?_) | (with_reducible refine below_setRow ?_ ?_ _) | (refine Below.trans ?_ (Below.mono (by assumption) ?_)))); all_goals (first | omega | (simp; done) | (simp; omega))))))
    go_enter Try.func163, Try.ntmps163
    go_wp2_with (first | (at_builtin; refine wpList_append_own _ rfl _ _ 41 rfl w.heap.size 47 i0 _ 5 32 Try.underlying41 hi hz0 hz1 hz2 rfl (by decide) _ 0 [] rfl HB.out ad n cap (xs.flatMap Fld.cs) rfl (by rw [flatMap_len fld_len, HX.out]) HN.out (flat_one fld_one xs) (by unfold maxLen; omega) (by omega) (by simp) ?_; intro v1 w1 hown1 hgr1 hnil1; have HO := Lib.hid hown1; clear hown1; have HG := Lib.hid hgr1; clear hgr1))
    obtain ⟨a1, cap1, rfl, ho1⟩ := own_sh HO.out
    have HO1 := Lib.hid ho1; clear ho1
    simp only [Nat.zero_add, List.nil_append] at HO1
    go_wp2
    go_ret
    exact ⟨a1, cap1, by simp, HO1.out, grown_new HG.out rfl⟩

/-! ### shapes, one behind the other -/
/-- As Shs, and where a shape has no array its slice is nil. -/
def ShsC (w : World) (a : Option Addr) (xs : List Shp) : Prop :=
  ∀ (k : Nat) (x : Shp), xs[k]? = some x → ∃ b off a' cap', a = some ⟨b, off, none⟩ ∧ b < w.heap.size ∧ w.cell? ⟨b, off + k * 2, none⟩ = some (.int .i64 x.id) ∧ w.cell? ⟨b, off + k * 2 + 1, none⟩ = some (.slice a' x.flds.length cap') ∧ Flds w a' x.flds ∧ (a' = none → cap' = 0)
theorem ShsC.shs {w : World} {a : Option Addr} {xs : List Shp} (h : ShsC w a xs) : Shs w a xs := fun k x hx => by
  obtain ⟨b, off, a', cap', h1, h2, h3, h4, h5, _⟩ := h k x hx
  exact ⟨b, off, a', cap', h1, h2, h3, h4, h5⟩
theorem ShsC.keep {w w' : World} {a : Option Addr} {xs : List Shp} (h : ShsC w a xs) (hb : Below w.heap.size w w') : ShsC w' a xs := fun k x hx => by
  obtain ⟨b, off, a', cap', h1, h2, h3, h4, h5, h6⟩ := h k x hx
  exact ⟨b, off, a', cap', h1, Nat.lt_of_lt_of_le h2 hb.size, (hb.cell (p := ⟨b, _, none⟩) h2).trans h3, (hb.cell (p := ⟨b, _, none⟩) h2).trans h4, Sl.keep h5 hb, h6⟩
theorem OwnShs.shsC {w : World} {base : Nat} {T TF : TypeId} {a : Option Addr} {n cap : Nat} {rs : List ShR} {xs : List Shp} (h : OwnShs w base T TF (.slice a n cap) n rs xs) : ShsC w a xs := by
  intro k x hx
  have hk : k < n := by
    rcases Nat.lt_or_ge k xs.length with h' | h'
    · rw [← h.lenx]; exact h'
    · rw [List.getElem?_eq_none h'] at hx; simp at hx
  obtain ⟨r, hr⟩ : ∃ r, rs[k]? = some r := ⟨_, List.getElem?_eq_getElem (by rw [h.len]; exact hk)⟩
  obtain ⟨e1, e2, e3⟩ := h.each k _ x hr hx
  obtain ⟨a0, cap0, he, _, _, hs⟩ := Sl.of_owns (cs := ShR.cs) shR_len h.outer h.len
  simp only [Value.slice.injEq] at he
  obtain ⟨rfl, _, _⟩ := he
  obtain ⟨b, off, ha, hlt, hc⟩ := hs k _ hr
  have c0 := hc 0 _ rfl
  have c1 := hc 1 _ rfl
  rw [e1] at c0
  rw [e2] at c1
  exact ⟨b, off, _, _, ha, hlt, c0, c1, flds_of_own (by rw [← e2]; exact e3) rfl, own_nilc e3⟩
/-- A shape is put behind the shapes. -/
theorem OwnShs.push {w w' : World} {base n : Nat} {T TF : TypeId} {v v' : Value} {rs : List ShR} {xs : List Shp} {r : ShR} {x : Shp} (h : OwnShs w base T TF v n rs xs) (hne : T ≠ TF) (hr : RowIs w base TF r x)
    (hf : ∀ (i : Nat) (s : ShR), rs[i]? = some s → ∀ g, (Value.slice s.a s.n s.cap).ownBlock = some g → (Value.slice r.a r.n r.cap).ownBlock ≠ some g)
    (ho : w'.ownsRow base T 2 v' (n + 1) (rs.flatMap ShR.cs ++ r.cs)) (hg : w.grownBy w' v.ownBlock) : OwnShs w' base T TF v' (n + 1) (rs ++ [r]) (xs ++ [x]) := by
  have keep : ∀ (s : ShR) (y : Shp), RowIs w base TF s y → RowIs w' base TF s y := by
    intro s y hs
    refine ⟨hs.1, hs.2.1, hs.2.2.kept hg ?_⟩
    cases hb : (Value.slice s.a s.n s.cap).ownBlock with
    | none => exact .inl rfl
    | some g =>
      refine .inr (fun hv => ?_)
      obtain ⟨a0, cap0, rfl, ho0⟩ := own_sh h.outer
      rcases hs.2.2.2 with ⟨e, _⟩ | ⟨g', c', cur, e, _, hh, _⟩
      · rw [e] at hb; simp [Value.ownBlock] at hb
      · rcases ho0.2 with ⟨e2, _⟩ | ⟨g2, c2, cur2, e2, _, hh2, _⟩
        · rw [e2] at hv; simp [Value.ownBlock] at hv
        · rw [e] at hb; rw [e2] at hv
          simp only [Value.ownBlock, Option.some.injEq] at hb hv
          subst hb
          rw [← hv, hh] at hh2
          simp only [Option.some.injEq, Obj.cells.injEq] at hh2
          exact hne hh2.2.1.symm
  refine ⟨by simp [h.len], by simp [h.lenx], by rw [List.flatMap_append]; simpa using ho, ?_, h.apart.snoc hf⟩
  intro k s y hs hy
  rcases Nat.lt_trichotomy k n with hk | hk | hk
  · rw [List.getElem?_append_left (by rw [h.len]; exact hk)] at hs
    rw [List.getElem?_append_left (by rw [h.lenx]; exact hk)] at hy
    exact keep s y (h.each k s y hs hy)
  · rw [List.getElem?_append_right (by rw [h.len]; omega), h.len, hk] at hs
    rw [List.getElem?_append_right (by rw [h.lenx]; omega), h.lenx, hk] at hy
    simp at hs hy; subst hs; subst hy
    exact keep _ _ hr
  · rw [List.getElem?_eq_none (by simp [h.len]; omega)] at hs; simp at hs
theorem OwnShs.nil (w : World) (base : Nat) (T TF : TypeId) : OwnShs w base T TF (.slice none 0 0) 0 [] [] :=
  ⟨rfl, rfl, World.ownsRow_nil _ _ _ _, fun k r x h => by simp at h, Apart.nil⟩
end Go.Proofs.Ytbgejldjgkihaaa

/- Texts that FnRawText leans on, part 8. (Put together by wip/tools/bundle.py.) -/
import Derived.Deep.MidRow
import Derived.Handed
import Derived.SizedLaws
import Derived.Test.YtbjbgneiglopmaaGreatDoorFnRT1
import Derived.Test.YtbjbgneiglopmaaGreatDoorFnRT2
import Derived.Test.YtbjbgneiglopmaaGreatDoorFnRT3
import Derived.Test.YtbjbgneiglopmaaGreatDoorFnRT6
import Derived.Test.YtbjbgneiglopmaaGreatDoorFnRT7
namespace Go.Proofs.YtbjbgneiglopmaaGreatDoor
set_option linter.unusedSimpArgs false
set_option linter.unusedVariables false
open Go.ChangeShapes Go.WideShapes Go.ChangeAt Go.RowKit Go.BigFrame
theorem setRow_set5 : ∀ (fs : List Fld) (k : Nat) (f : Fld), k < fs.length → setRow (fs.flatMap Fld.cs) (k * 5) f.cs = (fs.set k f).flatMap Fld.cs
  | [], k, r, h => by simp at h
  | s :: rs, 0, r, h => by simp [setRow, Fld.cs]
  | s :: rs, k + 1, r, h => by
    have ih := setRow_set5 rs k r (by simpa using h)
    simp only [setRow, Fld.cs, List.flatMap_cons, List.set_cons_succ] at ih ⊢
    rw [show (k + 1) * 5 = k * 5 + 5 by omega]
    simpa using ih
structure RawB (xs : List Shp) : Prop where
  n : xs.length ≤ 7
  len : ∀ x ∈ xs, x.flds.length ≤ 14
  ok : ∀ x ∈ xs, ShpOk x
theorem RawB.sum {xs : List Shp} (h : RawB xs) : fldSum xs ≤ 1048576 := Nat.le_trans (fldSum_mul h.len) (by have := h.n; omega)
theorem RawB.set {xs : List Shp} (h : RawB xs) (q : Nat) {x : Shp} (h1 : x.flds.length ≤ 14) (h2 : ShpOk x) : RawB (xs.set q x) := by
  refine ⟨by simpa using h.n, fun y hy => ?_, fun y hy => ?_⟩ <;> rcases List.mem_or_eq_of_mem_set hy with h' | rfl
  · exact h.len y h'
  · exact h1
  · exact h.ok y h'
  · exact h2
theorem RawB.push {xs : List Shp} (h : RawB xs) (hn : xs.length < 7) {i : Int} (hi : W64 i) : RawB (xs ++ [⟨i, []⟩]) := by
  refine ⟨by simp; omega, fun y hy => ?_, fun y hy => ?_⟩ <;> rcases List.mem_append.1 hy with h' | h'
  · exact h.len y h'
  · simp at h'; subst h'; simp
  · exact h.ok y h'
  · simp at h'; subst h'; exact ⟨hi, by simp, fun f hf => by cases hf⟩
theorem raw_bent {ids : List Int} {i : Nat} {xs : List Shp} (h : RawGood ids i 0 xs) (hids : ∀ k ∈ ids, 1 ≤ k ∧ k ≤ 99) (hl : xs.length ≤ 3) : RawB xs := by
  refine ⟨by omega, fun x hx => by have := h.len5 hx; omega, fun x hx => ?_⟩
  have hid := h.id99 hids hx
  refine ⟨w64_of (by omega) (by omega), by have := h.len5 hx; unfold maxLen; omega, fun f hf => ?_⟩
  have hF := (h.good x hx).2 f hf
  have h1 := numOk_le hF.num
  have h2 := inB_le hF.kind
  have hr := hF.ref
  refine ⟨w64_of (by omega) (by omega), w64_of (by omega) (by omega), ?_⟩
  by_cases h8 : f.kind = 8
  · rw [if_pos h8] at hr
    simp only [hasI, List.any_eq_true, beq_iff_eq] at hr
    obtain ⟨j, hj, e⟩ := hr
    have := hids j hj
    exact w64_of (by omega) (by omega)
  · rw [if_neg h8] at hr
    exact w64_of (by omega) (by omega)
def DrawnRB (B : Nat) (w : World) (r : Ending) (w' : World) : Prop :=
  ∃ a n cap rs xs, r = .returned (.agg #[.slice a n cap]) ∧ OwnShs w' w.heap.size 40 44 (.slice a n cap) n rs xs ∧ RawB xs ∧ Up B w w'
structure Mid6b (w : World) (B : Nat) (S : Nat) (a : Option Addr) (n cap : Nat) (rs : List ShR) (xs : List Shp) (wx : World) : Prop where
  own : OwnShs wx (w.heap.size + 1) 40 44 (.slice a n cap) n rs xs
  good : RawB xs
  res : wx.heap[w.heap.size]? = some (.cells #[.slice none 0 0] 24 (0, 0))
  box : wx.heap[S]? = some (.cells #[.slice a n cap] 24 (0, 0))
  up : Up B w wx
section
variable {w : World} {B S : Nat} {a : Option Addr} {n cap : Nat} {rs : List ShR} {xs : List Shp} {wx wy : World}
theorem Mid6b.step (h : Mid6b w B S a n cap rs xs wx) (hB : B < w.heap.size) (hS : w.heap.size < S) (hc : Cur wy B) (ho : Oth B wx wy) : Mid6b w B S a n cap rs xs wy :=
  ⟨h.own.oth ho (by omega), h.good, (ho.block (box_lt h.res) (by omega)).trans h.res, (ho.block (box_lt h.box) (by omega)).trans h.box, h.up.step hc ho⟩
theorem Mid6b.below (h : Mid6b w B S a n cap rs xs wx) (hB : B < w.heap.size) (hb : Below wx.heap.size wx wy) : Mid6b w B S a n cap rs xs wy :=
  ⟨h.own.below hb (Nat.le_refl _), h.good, (hb.block _ (box_lt h.res)).trans h.res, (hb.block _ (box_lt h.box)).trans h.box, h.up.below hB hb h.up.oth.size⟩
theorem Mid6b.out {g : Nat} (h : Mid6b w B S a n cap rs xs wx) {t : TypeId} {v : Value} {L : List Value} {k sz base : Nat} (ho : wx.ownsRow base t sz v k L) (hv : v.ownBlock = some g) (ht : t ≠ 24) : g ≠ S := by
  intro e
  obtain ⟨c, hc⟩ := own_box ho hv
  rw [e, h.box] at hc
  simp at hc
  exact ht hc.2.symm
theorem Mid6b.put {g o : Nat} {u : Value} {rs' : List ShR} {xs' : List Shp} (h : Mid6b w B S a n cap rs xs wx) (hB : B < w.heap.size) (hg : w.heap.size < g) (hgS : g ≠ S) (own' : OwnShs (wx.setCell ⟨g, o, none⟩ u) (w.heap.size + 1) 40 44 (.slice a n cap) n rs' xs') (good' : RawB xs') :
    Mid6b w B S a n cap rs' xs' (wx.setCell ⟨g, o, none⟩ u) :=
  ⟨own', good', hset_other h.res (by simp; omega), hset_other h.box (by simpa using Ne.symm hgS), h.up.below hB ((Below.refl (w.heap.size + 1) _).setCell (by simp; omega) _) (by omega)⟩
theorem Mid6b.boxAt {w11 : World} (h : Mid6b w B S a n cap rs xs wx) (hg : wx.grownBy w11 (Value.slice a n cap).ownBlock) : w11.heap[S]? = some (.cells #[.slice a n cap] 24 (0, 0)) :=
  (hg.block S (box_lt h.box) (fun e => h.out h.own.outer e.symm (by decide) rfl)).trans h.box
theorem Mid6b.push {w11 : World} {g' capn : Nat} {i : Int} (h : Mid6b w B S a n cap rs xs wx) (hB : B < w.heap.size) (hSl : w.heap.size < S) (hn : n < 7) (hi : W64 i) (hown : w11.ownsRow (w.heap.size + 1) 40 2 (.slice (some ⟨g', 0, none⟩) (n + 1) capn) (n + 1) (rs.flatMap ShR.cs ++ [.int .i64 i, .slice none 0 0]))
    (hg : wx.grownBy w11 (Value.slice a n cap).ownBlock) :
    Mid6b w B S (some ⟨g', 0, none⟩) (n + 1) capn (rs ++ [⟨i, none, 0, 0⟩]) (xs ++ [⟨i, []⟩]) (w11.setCell ⟨S, 0, none⟩ (.slice (some ⟨g', 0, none⟩) (n + 1) capn)) := by
  have hS := h.boxAt hg
  have hz := h.up.oth.size
  have hb : Below (w.heap.size + 1) wx w11 := below_grown (Below.refl _ _) hg (fun b e => (h.own.outer.lt b e).1) (by have := box_lt h.res; omega)
  have hSR : S ≠ w.heap.size := by omega
  refine ⟨OwnShs.setBox (h.own.push (r := ⟨i, none, 0, 0⟩) (x := ⟨i, []⟩) (by decide) ⟨rfl, rfl, World.ownsRow_nil _ _ _ _⟩ (fun _ _ _ _ _ e => by simp [Value.ownBlock] at e) hown hg) hS (by decide) (by decide) _, h.good.push (by rw [h.own.lenx]; exact hn) hi, hset_other ((hb.block _ (by omega)).trans h.res) (by simpa using Ne.symm hSR), ?_, ?_⟩
  · apply hset_eq (hset_set hS); simp only [List.setIfInBounds_toArray, List.set_cons_zero]
  · exact h.up.below hB (hb.setCell (by simp; omega) _) (by omega)
end
def msr6 (S : Nat) (w : World) : Nat := match w.cell? ⟨S, 0, none⟩ with | some (.slice _ n _) => 8 - n | _ => 0
theorem Mid6b.msr {w : World} {B S : Nat} {a : Option Addr} {n cap : Nat} {rs : List ShR} {xs : List Shp} {wx : World} (h : Mid6b w B S a n cap rs xs wx) : msr6 S wx = 8 - n := by
  have k : wx.cell? ⟨S, 0, none⟩ = some (.slice a n cap) := box_cells h.box 0
  unfold msr6; rw [k]
section
variable {w : World} {B S : Nat} {a : Option Addr} {n cap : Nat} {rs : List ShR} {xs : List Shp} {wx wy : World}
theorem Mid6b.at {k : Nat} (h : Mid6b w B S a n cap rs xs wx) (hk : k < n) : ∃ g, a = some ⟨g, 0, none⟩ ∧ w.heap.size + 1 ≤ g ∧ g < wx.heap.size ∧ g ≠ S ∧ ∃ (rid : Int) (ra : Option Addr) (rn rcap : Nat) (x0 : Shp), rs[k]? = some ⟨rid, ra, rn, rcap⟩ ∧ xs[k]? = some x0 ∧ x0 ∈ xs ∧ rn = x0.flds.length ∧ wx.ownsRow (w.heap.size + 1) 44 5 (.slice ra rn rcap) rn (x0.flds.flatMap Fld.cs) ∧ wx.cell? ⟨g, k * 2, none⟩ = some (.int .i64 rid) ∧ wx.cell? ⟨g, k * 2 + 1, none⟩ = some (.slice ra rn rcap) ∧ ∀ j, wx.frozen? ⟨g, j, none⟩ = false := by
  obtain ⟨g, cap0, e0, hg0, hgl⟩ := h.own.outer.form (by omega)
  simp only [Value.slice.injEq, true_and] at e0
  obtain ⟨rfl, rfl⟩ := e0
  obtain ⟨⟨rid, ra, rn, rcap⟩, hr, hrm⟩ := at_lt (xs := rs) (k := k) (by rw [h.own.len]; exact hk)
  obtain ⟨x0, hx, hxm⟩ := at_lt (xs := xs) (k := k) (by rw [h.own.lenx]; exact hk)
  obtain ⟨hrid, hrn, hrow⟩ := h.own.each k _ x0 hr hx
  exact ⟨g, rfl, hg0, hgl, h.out h.own.outer rfl (by decide), rid, ra, rn, rcap, x0, hr, hx, hxm, hrn, hrow, own_at h.own.outer (by rw [show k * 2 = k * 2 + 0 by rfl, flatMap_at shR_len rs k 0 _ hr (by omega)]; rfl), own_at h.own.outer (by rw [flatMap_at shR_len rs k 1 _ hr (by omega)]; rfl), h.own.outer.frozenAt⟩
structure MidF (w : World) (B S : Nat) (a : Option Addr) (n cap : Nat) (rs : List ShR) (xs : List Shp) (F : Nat) (f : Fld) (wx : World) : Prop where
  mid : Mid6b w B S a n cap rs xs wx
  fbox : wx.heap[F]? = some (.cells #[.int .i64 f.number, .int .i64 f.kind, .bool f.rep, .bool f.packed, .int .i64 f.msg] 44 (0, 0))
  lt : w.heap.size + 1 ≤ F
  ne : F ≠ S
  rows : ∀ r ∈ rs, ∀ g, (Value.slice r.a r.n r.cap).ownBlock = some g → g ≠ F
  outer : ∀ g, (Value.slice a n cap).ownBlock = some g → g ≠ F
variable {F : Nat} {f f' : Fld}
theorem MidF.mk' (h : Mid6b w B S a n cap rs xs wx) (hB : B < w.heap.size) (hS : w.heap.size < S) (f : Fld) : MidF w B S a n cap rs xs wx.heap.size f (wx.alloc (.cells #[.int .i64 f.number, .int .i64 f.kind, .bool f.rep, .bool f.packed, .int .i64 f.msg] 44)) := by
  have hz := h.up.oth.size
  have hSl := box_lt h.box
  refine ⟨h.below hB ((Below.refl _ _).alloc (Nat.le_refl _) _), hset_new rfl, by omega, by omega, fun r hr g e => ?_, fun g e => ?_⟩
  · obtain ⟨i, hi, hie⟩ := List.getElem_of_mem hr
    have hri : rs[i]? = some r := by rw [List.getElem?_eq_getElem hi, hie]
    obtain ⟨x, hx, -⟩ := at_lt (xs := xs) (k := i) (by rw [h.own.lenx, ← h.own.len]; exact hi)
    have := ((h.own.each i r x hri hx).2.2.lt g e).2
    omega
  · have := (h.own.outer.lt g e).2
    omega
theorem MidF.step (h : MidF w B S a n cap rs xs F f wx) (hB : B < w.heap.size) (hS : w.heap.size < S) (hc : Cur wy B) (ho : Oth B wx wy) : MidF w B S a n cap rs xs F f wy :=
  ⟨h.mid.step hB hS hc ho, (ho.block (box_lt h.fbox) (by have := h.lt; omega)).trans h.fbox, h.lt, h.ne, h.rows, h.outer⟩
theorem MidF.below (h : MidF w B S a n cap rs xs F f wx) (hB : B < w.heap.size) (hb : Below wx.heap.size wx wy) : MidF w B S a n cap rs xs F f wy :=
  ⟨h.mid.below hB hb, (hb.block _ (box_lt h.fbox)).trans h.fbox, h.lt, h.ne, h.rows, h.outer⟩
theorem MidF.set (h : MidF w B S a n cap rs xs F f wx) (hB : B < w.heap.size) (o : Nat) (u : Value)
    (hf : (#[.int .i64 f.number, .int .i64 f.kind, .bool f.rep, .bool f.packed, .int .i64 f.msg] : Array Value).setIfInBounds o u = #[.int .i64 f'.number, .int .i64 f'.kind, .bool f'.rep, .bool f'.packed, .int .i64 f'.msg]) : MidF w B S a n cap rs xs F f' (wx.setCell ⟨F, o, none⟩ u) := by
  have hg : wx.grownBy (wx.setCell ⟨F, o, none⟩ u) (some F) := (Oth.refl F wx).setCell (o := o) u
  have hlt := h.lt
  have hne := h.ne
  refine ⟨⟨h.mid.own.apartCell h.rows h.outer hg, h.mid.good, hset_other h.mid.res (by simp; omega), hset_other h.mid.box (by simpa using Ne.symm hne), h.mid.up.below hB ((Below.refl (w.heap.size + 1) _).setCell (by simp; omega) _) (by omega)⟩, ?_, h.lt, h.ne, h.rows, h.outer⟩
  apply hset_eq (hset_set h.fbox)
  rw [hf]
theorem MidF.cells (h : MidF w B S a n cap rs xs F f wx) : wx.cell? ⟨F, 0, none⟩ = some (.int .i64 f.number) ∧ wx.cell? ⟨F, 1, none⟩ = some (.int .i64 f.kind) ∧ wx.cell? ⟨F, 2, none⟩ = some (.bool f.rep) ∧ wx.cell? ⟨F, 3, none⟩ = some (.bool f.packed) ∧ wx.cell? ⟨F, 4, none⟩ = some (.int .i64 f.msg) ∧ ∀ j, wx.frozen? ⟨F, j, none⟩ = false :=
  ⟨box_cells h.fbox 0, box_cells h.fbox 1, box_cells h.fbox 2, box_cells h.fbox 3, box_cells h.fbox 4, box_frozen h.fbox⟩
end
set_option maxRecDepth 100000 in
set_option maxHeartbeats 8000000 in
theorem l6Bent_any (B : Nat) (w : World) (hc : Cur w B) : Calls Tryz.prog 27 #[.pointer (some ⟨B, 0, none⟩)] w (DrawnRB B w) := by
  have hBl := hc.lt
  obtain ⟨iS, hiS, hs0, hs1, hs2⟩ := info_parts info_RawMsg6
  obtain ⟨iF, hiF, hf0, hf1, hf2⟩ := info_parts info_RawField6
  go_enter Tryz.func27, Tryz.ntmps27
  go_wp2_with fail
  refine (l6Right_any B _ (hc.below (by ((repeat (first | (with_reducible exact Below.refl _ _) | (with_reducible assumption) | (with_reducible refine Below.alloc ?_ ?_ _) | (with_reducible refine Below.setCell ?_ ?_ _) | (with_reducible refine Below.drew ?_) | (with_reducible refine below_setRow ?_ ?_ _) | (refine Below.trans ?_ (Below.mono (by assumption) ?_)))); all_goals (first | omega | (simp; done) | (simp; omega)))))).mono ?_
  rintro r w1 ⟨a, n, cap, rs, xs, i, rfl, ho, h1, h3, hg, hu⟩
  have hz1 := hu.oth.size
  simp only [World.size_alloc] at hz1
  have hxl := ho.lenx
  have hM1 : Mid6b w B w1.heap.size a n cap rs xs (w1.alloc (.cells #[.slice a n cap] 24)) :=
    ⟨(ho.le (by simp)).alloc _, raw_bent hg (idL_ok n) (by omega), hset_alloc ((hu.oth.block (b := w.heap.size) (by simp) (by omega)).trans (hset_new (o := .cells #[.slice none 0 0] 24) rfl)), hset_new rfl, (((Up.refl hc).alloc hBl _).step hu.cur hu.oth).alloc hBl _⟩
  have H5 : ∀ x ∈ xs, x.flds.length ≤ 5 := fun x hx => hg.len5 hx
  have HM1 := Lib.hid hM1; clear hM1 ho hu hxl hg
  go_wp2_with fail
  refine (l1Below_any B n _ HM1.out.up.cur (by omega) (by omega)).mono ?_
  rintro r w2 ⟨x, rfl, hx0, hx1, hc2, ho2⟩
  obtain ⟨k, rfl⟩ := Int.eq_ofNat_of_zero_le hx0
  have hk : k < n := by omega
  have hM2 := HM1.out.step hBl (by omega) hc2 ho2
  go_wp2_with fail
  refine (l1Once_any B 5 _ hc2 (by omega) (by omega)).mono ?_
  rintro r w3 ⟨b1, rfl, hc3, ho3⟩
  have hM3 := hM2.step hBl (by omega) hc3 ho3
  obtain ⟨S, hS⟩ : ∃ S, w1.heap.size = S := ⟨_, rfl⟩
  rw [hS] at hM3
  have hM := hM3; clear hM3 hM2 hc2 ho2 hc3 ho3 HM1
  have hSl : w.heap.size < S := by omega
  simp only [hS]
  clear hS hz1
  have hSB : S ≠ B := by omega
  have fin : ∀ (W : World) (a : Option Addr) (n cap : Nat) (rs : List ShR) (xs : List Shp), Mid6b w B S a n cap rs xs W → ∀ (tm : Array Value), tm.getD 2 undef = .pointer (some ⟨w.heap.size, 0, none⟩) → bodyPost Tryz.prog Tryz.f27 (DrawnRB B w) .ret ⟨tm, []⟩ (W.setCell ⟨w.heap.size, 0, none⟩ (.slice a n cap)) := by
    intro W a n cap rs xs h tm t1
    refine bodyPost_ret (results_cell Tryz.results27 t1 (run_loadVar_mid _ w.heap.size 0 24 [.slice a n cap] _ (range_of_box (t := 24) ?_) Tryz.underlying24 rfl (by kernel_rfl))) rfl ⟨_, _, _, _, _, rfl, (h.own.set (by simp) _).le (by omega), h.good, h.up.below hBl ((Below.refl w.heap.size _).setCell (by simp) _) (Nat.le_refl _)⟩
    apply hset_eq (hset_set h.res); simp only [List.setIfInBounds_toArray, List.set_cons_zero]
  have seen : ∀ (W : World) (a : Option Addr) (n cap : Nat) (rs : List ShR) (xs : List Shp), Mid6b w B S a n cap rs xs W → W.cell? ⟨S, 0, none⟩ = some (.slice a n cap) ∧ W.cell? ⟨w.heap.size, 0, none⟩ = some (.slice none 0 0) ∧ (∀ j, W.frozen? ⟨w.heap.size, j, none⟩ = false) ∧ (∀ j, W.frozen? ⟨S, j, none⟩ = false) := fun W a n cap rs xs h => ⟨box_cells h.box 0, box_cells h.res 0, box_frozen h.res, box_frozen h.box⟩
  have hkn : (k : Int) < (n : Int) := by omega
  cases b1
  · obtain ⟨g, rfl, hg0, hgl, hgS, rid, ra, rn, rcap, x0, hr, hx, hxm, hrn, hrow, c0, c1, hfz⟩ := hM.at hk
    have hgB : g ≠ B := by omega
    have hx14 : x0.flds.length ≤ 14 := hM.good.len x0 hxm
    have HXO := Lib.hid (hM.good.ok x0 hxm)
    have HR := Lib.hid hr; have HX := Lib.hid hx; have HW := Lib.hid hrow; clear hr hx hrow hxm
    have HN := Lib.hid hrn; clear hrn
    obtain ⟨kS, kR, fR, fS⟩ := seen _ _ _ _ _ _ hM
    have HM := Lib.hid hM; clear hM
    have hrn0 : rn = 0 ∨ 0 < rn := by omega
    rcases hrn0 with rfl | h0
    · go_wp2_with fail
      exact fin _ _ _ _ _ _ HM.out _ rfl
    · obtain ⟨rb, cap1, e1, hrb, hrbl⟩ := HW.out.form h0
      simp only [Value.slice.injEq, true_and] at e1
      obtain ⟨rfl, rfl⟩ := e1
      have hn0 : (0 : Int) < (rn : Int) := by omega
      go_wp2_with fail
      refine (l1Once_any B 2 _ HM.out.up.cur (by omega) (by omega)).mono ?_
      rintro r w4 ⟨b2, rfl, hc4, ho4⟩
      have hM4 := HM.out.step hBl hSl hc4 ho4
      obtain ⟨kS', kR', fR', fS'⟩ := seen _ _ _ _ _ _ hM4
      have HM4 := Lib.hid hM4; clear hM4 kS kR fR fS c0 c1 hfz HW
      cases b2
      · go_wp2_with fail
        exact fin _ _ _ _ _ _ HM4.out _ rfl
      · obtain ⟨g_, eg, hg0_, hgl_, hgS_, rid_, ra_, rn_, rcap_, x0_, hr_, hx_, hxm_, hrn_, hrow, c0, c1, hfz⟩ := HM4.out.at hk
        obtain rfl : g = g_ := by simpa using eg
        rw [HR.out] at hr_; rw [HX.out] at hx_
        simp only [Option.some.injEq, ShR.mk.injEq] at hr_ hx_
        obtain ⟨rfl, rfl, rfl, rfl⟩ := hr_
        obtain rfl := hx_
        clear eg hg0_ hgl_ hgS_ hxm_ hrn_ hrow hfz
        have hrn256 : rn ≤ 256 := by have := HN.out; omega
        go_wp2_with fail
        refine (l1Below_any B rn _ HM4.out.up.cur (by omega) (by omega)).mono ?_
        rintro r w5 ⟨j5, rfl, hj50, hj51, hc5, ho5⟩
        obtain ⟨j, rfl⟩ := Int.eq_ofNat_of_zero_le hj50
        have hj : j < rn := by omega
        have hM5 := HM4.out.step hBl hSl hc5 ho5
        have HM5 := Lib.hid hM5; clear hM5 c0 c1 kS' kR' fR' fS' HM4 HM hc4 ho4 hc5 ho5
        obtain ⟨g_, eg, hg0_, hgl_, hgS_, rid_, ra_, rn_, rcap_, x0_, hr_, hx_, hxm_, hrn_, hrow, c0, c1, hfz⟩ := HM5.out.at hk
        obtain rfl : g = g_ := by simpa using eg
        rw [HR.out] at hr_; rw [HX.out] at hx_
        simp only [Option.some.injEq, ShR.mk.injEq] at hr_ hx_
        obtain ⟨rfl, rfl, rfl, rfl⟩ := hr_
        obtain rfl := hx_
        clear eg hg0_ hgl_ hgS_ hxm_ hrn_ hfz
        have HW := Lib.hid hrow; clear hrow
        obtain ⟨kS, kR, fR, fS⟩ := seen _ _ _ _ _ _ HM5.out
        have hjn : (j : Int) < (rn : Int) := by omega
        obtain ⟨f0, hf0', hfm⟩ := at_lt (xs := x0.flds) (k := j) (by have := HN.out; omega)
        have HF0 := Lib.hid hf0'; have HFO := Lib.hid (HXO.out.flds f0 hfm); clear hf0' hfm
        obtain ⟨b_, off_, e_, hbl_, d0, d1, d2, d3, d4⟩ := Flds.at (flds_of_own HW.out HN.out.symm) HF0.out
        simp only [Option.some.injEq, Addr.mk.injEq, true_and, and_true] at e_
        obtain ⟨rfl, rfl⟩ := e_
        simp only [Nat.zero_add] at d0 d1 d2 d3 d4
        obtain ⟨F, hFe⟩ : ∃ F, w5.heap.size = F := ⟨_, rfl⟩
        have hF5 := MidF.mk' HM5.out hBl hSl f0
        rw [hFe] at hF5
        have HF5 := Lib.hid hF5; clear hF5
        go_upto_region 18 with fail
        go_cut [7, 103] from 102 to 140 (fun s u wx => s = .pointer (some ⟨F, 0, none⟩) ∧ (∃ y : Int, u = .int .i64 y ∧ 0 ≤ y ∧ y ≤ 5) ∧ MidF w B S (some ⟨g, 0, none⟩) n cap rs xs F f0 wx)
        case first =>
          go_wp2_with fail
          refine (l1Below_any B 6 _ HF5.out.mid.up.cur (by omega) (by omega)).mono ?_
          rintro r w6 ⟨y, rfl, hy0, hy1, hc6, ho6⟩
          have hF6 := HF5.out.step hBl hSl hc6 ho6
          go_wp2_with fail
          go_meet
          case rel => exact ⟨rfl, ⟨y, rfl, hy0, by omega⟩, hF6⟩
        case rest =>
        obtain ⟨hFp, ⟨y, rfl, hy0, hy1⟩, hF6⟩ := hcut
        subst hFp
        have HF := Lib.hid hF6; clear hF6 HF5 hFe d0 d1 d2 d3 d4 kS kR fR fS c0 c1 HW hbl_ HM5
        obtain ⟨w6, hw6⟩ : ∃ w6, w6 = wc := ⟨_, rfl⟩
        subst hw6
        go_step
        go_cut [7] from 102 to 140 (fun s wx => s = .pointer (some ⟨F, 0, none⟩) ∧ ∃ f' : Fld, f'.ok ∧ MidF w B S (some ⟨g, 0, none⟩) n cap rs xs F f' wx)
        case first =>
          obtain ⟨q0, q1, q2, q3, q4, fq⟩ := HF.out.cells
          rcases (show y = 0 ∨ y = 1 ∨ y = 2 ∨ y = 3 ∨ y = 4 ∨ 5 ≤ y by omega) with rfl | rfl | rfl | rfl | rfl | h5
          · go_wp2_with fail
            refine (l4Number_w B _ HF.out.mid.up.cur).mono ?_
            rintro r v1 ⟨i1, rfl, hi1, hd1, hp1⟩
            have hF1 := HF.out.step hBl hSl hd1 hp1
            obtain ⟨q0', q1', q2', q3', q4', fq'⟩ := hF1.cells
            have HFs := Lib.hid (hF1.set (f' := ⟨i1, f0.kind, f0.rep, f0.packed, f0.msg⟩) hBl 0 (.int .i64 i1) rfl)
            go_wp2_with fail
            go_meet
            case rel => exact ⟨rfl, ⟨i1, f0.kind, f0.rep, f0.packed, f0.msg⟩, ⟨hi1, HFO.out.kind, HFO.out.msg⟩, HFs.out⟩
          · go_wp2_with fail
            refine (l1Below_any B 11 _ HF.out.mid.up.cur (by omega) (by omega)).mono ?_
            rintro r v1 ⟨i1, rfl, hi10, hi11, hd1, hp1⟩
            have hF1 := HF.out.step hBl hSl hd1 hp1
            obtain ⟨q0', q1', q2', q3', q4', fq'⟩ := hF1.cells
            have hw1 : IntKind.i64.wrap (i1 - 1) = i1 - 1 := by rw [IntKind.wrap_i64]; omega
            have HFs := Lib.hid (hF1.set (f' := ⟨f0.number, i1 - 1, f0.rep, f0.packed, f0.msg⟩) hBl 1 (.int .i64 (i1 - 1)) rfl)
            go_wp2_with fail
            go_meet
            case rel => exact ⟨rfl, ⟨f0.number, i1 - 1, f0.rep, f0.packed, f0.msg⟩, ⟨HFO.out.number, w64_of (u := i1 - 1) (by omega) (by omega), HFO.out.msg⟩, HFs.out⟩
          · have HFs := Lib.hid (HF.out.set (f' := ⟨f0.number, f0.kind, f0.rep, !f0.packed, f0.msg⟩) hBl 3 (.bool (!f0.packed)) rfl)
            go_wp2_with fail
            go_meet
            case rel => exact ⟨rfl, ⟨f0.number, f0.kind, f0.rep, !f0.packed, f0.msg⟩, ⟨HFO.out.number, HFO.out.kind, HFO.out.msg⟩, HFs.out⟩
          · have HFs := Lib.hid (HF.out.set (f' := ⟨f0.number, f0.kind, !f0.rep, f0.packed, f0.msg⟩) hBl 2 (.bool (!f0.rep)) rfl)
            go_wp2_with fail
            go_meet
            case rel => exact ⟨rfl, ⟨f0.number, f0.kind, !f0.rep, f0.packed, f0.msg⟩, ⟨HFO.out.number, HFO.out.kind, HFO.out.msg⟩, HFs.out⟩
          · go_wp2_with fail
            have hFa := HF.out.below (wy := w6.alloc (.cells #[.int .i64 0, .int .i64 5, .int .i64 1, .int .i64 99, .int .i64 44, .int .i64 (-1)] 3)) hBl ((Below.refl _ _).alloc (Nat.le_refl _) _)
            refine (l1PickInt_in B w6.heap.size 6 [0, 5, 1, 99, 44, -1] 3 _ hFa.mid.up.cur (by have := box_lt HF.out.mid.box; have := HF.out.mid.up.oth.size; omega) (hset_new rfl) (by decide) (by decide)).mono ?_
            rintro r v1 ⟨i1, rfl, him, hd1, hp1⟩
            have hi1 : W64 i1 := by
              simp only [List.mem_cons, List.not_mem_nil, or_false] at him
              rcases him with rfl | rfl | rfl | rfl | rfl | rfl <;> exact w64_lim (by omega) (by omega)
            have hF1 := hFa.step hBl hSl hd1 hp1
            obtain ⟨q0', q1', q2', q3', q4', fq'⟩ := hF1.cells
            have HFs := Lib.hid (hF1.set (f' := ⟨f0.number, f0.kind, f0.rep, f0.packed, i1⟩) hBl 4 (.int .i64 i1) rfl)
            go_wp2_with fail
            go_meet
            case rel => exact ⟨rfl, ⟨f0.number, f0.kind, f0.rep, f0.packed, i1⟩, ⟨HFO.out.number, HFO.out.kind, hi1⟩, HFs.out⟩
          · obtain ⟨g_, eg, hg0_, hgl_, hgS_, rid_, ra_, rn_, rcap_, x0_, hr_, hx_, hxm_, hrn_, hrow, c0, c1, hfz⟩ := HF.out.mid.at hk
            obtain rfl : g = g_ := by simpa using eg
            rw [HR.out] at hr_; rw [HX.out] at hx_
            simp only [Option.some.injEq, ShR.mk.injEq] at hr_ hx_
            obtain ⟨rfl, rfl, rfl, rfl⟩ := hr_
            obtain rfl := hx_
            clear eg hg0_ hgl_ hgS_ hxm_ hrn_ hfz
            obtain ⟨f1, hf1', hfm1⟩ := at_lt (xs := x0.flds) (k := 0) (by have := HN.out; omega)
            have HFO1 := Lib.hid (HXO.out.flds f1 hfm1)
            obtain ⟨b_, off_, e_, hbl_, d0, d1, d2, d3, d4⟩ := Flds.at (flds_of_own hrow HN.out.symm) hf1'
            simp only [Option.some.injEq, Addr.mk.injEq, true_and, and_true] at e_
            obtain ⟨rfl, rfl⟩ := e_
            simp only [Nat.zero_add, Nat.zero_mul] at d0 d1 d2 d3 d4
            clear hrow hf1' hfm1
            obtain ⟨kS, kR, fR, fS⟩ := seen _ _ _ _ _ _ HF.out.mid
            have HFs := Lib.hid (((((HF.out.set (f' := ⟨f1.number, f0.kind, f0.rep, f0.packed, f0.msg⟩) hBl 0 (.int .i64 f1.number) rfl).set (f' := ⟨f1.number, f1.kind, f0.rep, f0.packed, f0.msg⟩) hBl 1 (.int .i64 f1.kind) rfl).set (f' := ⟨f1.number, f1.kind, f1.rep, f0.packed, f0.msg⟩) hBl 2 (.bool f1.rep) rfl).set (f' := ⟨f1.number, f1.kind, f1.rep, f1.packed, f0.msg⟩) hBl 3 (.bool f1.packed) rfl).set (f' := f1) hBl 4 (.int .i64 f1.msg) rfl)
            have y0 : (y == 0) = false := by simp; omega
            have y1 : (y == 1) = false := by simp; omega
            have y2 : (y == 2) = false := by simp; omega
            have y3 : (y == 3) = false := by simp; omega
            have y4 : (y == 4) = false := by simp; omega
            go_wp2_with fail
            go_meet
            case rel => exact ⟨rfl, f1, HFO1.out, HFs.out⟩
        case rest =>
          obtain ⟨rfl, f', hfo, hm⟩ := hcut
          have HFc := Lib.hid hm; have HFk := Lib.hid hfo; clear hm hfo HF HFO HF0
          obtain ⟨q0, q1, q2, q3, q4, fq⟩ := HFc.out.cells
          obtain ⟨g_, eg, hg0_, hgl_, hgS_, rid_, ra_, rn_, rcap_, x0_, hr_, hx_, hxm_, hrn_, hrow, c0, c1, hfz⟩ := HFc.out.mid.at hk
          obtain rfl : g = g_ := by simpa using eg
          rw [HR.out] at hr_; rw [HX.out] at hx_
          simp only [Option.some.injEq, ShR.mk.injEq] at hr_ hx_
          obtain ⟨rfl, rfl, rfl, rfl⟩ := hr_
          obtain rfl := hx_
          clear eg hg0_ hgl_ hgS_ hxm_ hrn_ hfz
          obtain ⟨kS, kR, fR, fS⟩ := seen _ _ _ _ _ _ HFc.out.mid
          have HW := Lib.hid hrow; clear hrow
          have hLr : ∀ i, i < 5 → ∃ u, wc.cell? ⟨rb, j * 5 + i, none⟩ = some u := fun i hi => by
            obtain ⟨u, hu⟩ := owns_some HW.out (j * 5 + i) (by have := HN.out; omega)
            exact ⟨u, hu⟩
          obtain ⟨u0, d0⟩ := hLr 0 (by omega); obtain ⟨u1, d1⟩ := hLr 1 (by omega); obtain ⟨u2, d2⟩ := hLr 2 (by omega); obtain ⟨u3, d3⟩ := hLr 3 (by omega); obtain ⟨u4, d4⟩ := hLr 4 (by omega)
          simp only [Nat.add_zero] at d0
          clear hLr
          have hfr : ∀ i, wc.frozen? ⟨rb, i, none⟩ = false := HW.out.frozenAt
          go_upto_region 30 with fail
          refine wp_region_till (Cells [(⟨F, 0, none⟩, .int .i64 f'.number), (⟨F, 1, none⟩, .int .i64 f'.kind), (⟨F, 2, none⟩, .bool f'.rep), (⟨F, 3, none⟩, .bool f'.packed), (⟨F, 4, none⟩, .int .i64 f'.msg), (⟨S, 0, none⟩, .slice (some ⟨g, 0, none⟩) n cap), (⟨g, k * 2 + 1, none⟩, .slice (some ⟨rb, 0, none⟩) rn rcap)]) (fun i => decide (9 ≤ i)) (by kernel_rfl) ?_
          have hS : Cells [(⟨F, 0, none⟩, .int .i64 f'.number), (⟨F, 1, none⟩, .int .i64 f'.kind), (⟨F, 2, none⟩, .bool f'.rep), (⟨F, 3, none⟩, .bool f'.packed), (⟨F, 4, none⟩, .int .i64 f'.msg), (⟨S, 0, none⟩, .slice (some ⟨g, 0, none⟩) n cap), (⟨g, k * 2 + 1, none⟩, .slice (some ⟨rb, 0, none⟩) rn rcap)] wc.drew := cells_mk q0 (cells_mk q1 (cells_mk q2 (cells_mk q3 (cells_mk q4 (cells_mk kS (cells_mk c1 (cells_no _)))))))
          refine wpTill_take (i := 0) (v := ?v0_25) rfl (by kernel_rfl) (by kernel_rfl) (by kernel_rfl) (by kernel_rfl) (fun _ _ _ h => h) (Or.inl ⟨by rfl, ?y0_25⟩) hS ?r0_25
          case y0_25 => (intro wq hq; (try simp only [cells_cons, cells_nil, and_true] at hq); first | (go_simp; done) | (go_simp; with_reducible rfl) | (obtain ⟨hq1, hq2⟩ := hq; go_simp; with_reducible rfl))
          try simp only [List.getElem_toArray, List.getElem_cons_succ, List.getElem_cons_zero, Act.put, List.setIfInBounds_toArray, List.set_cons_zero, List.set_cons_succ]
          refine wpTill_take (i := 1) (v := ?v1_26) rfl (by kernel_rfl) (by kernel_rfl) (by kernel_rfl) (by kernel_rfl) (fun _ _ _ h => h) (Or.inl ⟨by rfl, ?y1_26⟩) hS ?r1_26
          case y1_26 => (intro wq hq; (try simp only [cells_cons, cells_nil, and_true] at hq); first | (go_simp; done) | (go_simp; with_reducible rfl) | (obtain ⟨hq1, hq2⟩ := hq; go_simp; with_reducible rfl))
          try simp only [List.getElem_toArray, List.getElem_cons_succ, List.getElem_cons_zero, Act.put, List.setIfInBounds_toArray, List.set_cons_zero, List.set_cons_succ]
          refine wpTill_take (i := 2) (v := ?v2_27) rfl (by kernel_rfl) (by kernel_rfl) (by kernel_rfl) (by kernel_rfl) (fun _ _ _ h => h) (Or.inl ⟨by rfl, ?y2_27⟩) hS ?r2_27
          case y2_27 => (intro wq hq; (try simp only [cells_cons, cells_nil, and_true] at hq); first | (go_simp; done) | (go_simp; with_reducible rfl) | (obtain ⟨hq1, hq2⟩ := hq; go_simp; with_reducible rfl))
          try simp only [List.getElem_toArray, List.getElem_cons_succ, List.getElem_cons_zero, Act.put, List.setIfInBounds_toArray, List.set_cons_zero, List.set_cons_succ]
          refine wpTill_take (i := 3) (v := ?v3_28) rfl (by kernel_rfl) (by kernel_rfl) (by kernel_rfl) (by kernel_rfl) (fun _ _ _ h => h) (Or.inl ⟨by rfl, ?y3_28⟩) hS ?r3_28
          case y3_28 => (intro wq hq; (try simp only [cells_cons, cells_nil, and_true] at hq); first | (go_simp; done) | (go_simp; with_reducible rfl) | (obtain ⟨hq1, hq2⟩ := hq; go_simp; with_reducible rfl))
          try simp only [List.getElem_toArray, List.getElem_cons_succ, List.getElem_cons_zero, Act.put, List.setIfInBounds_toArray, List.set_cons_zero, List.set_cons_succ]
          refine wpTill_take (i := 4) (v := ?v4_29) rfl (by kernel_rfl) (by kernel_rfl) (by kernel_rfl) (by kernel_rfl) (fun _ _ _ h => h) (Or.inl ⟨by rfl, ?y4_29⟩) hS ?r4_29
          case y4_29 => (intro wq hq; (try simp only [cells_cons, cells_nil, and_true] at hq); first | (go_simp; done) | (go_simp; with_reducible rfl) | (obtain ⟨hq1, hq2⟩ := hq; go_simp; with_reducible rfl))
          try simp only [List.getElem_toArray, List.getElem_cons_succ, List.getElem_cons_zero, Act.put, List.setIfInBounds_toArray, List.set_cons_zero, List.set_cons_succ]
          refine wpTill_take (i := 5) (v := ?v5_30) rfl (by kernel_rfl) (by kernel_rfl) (by kernel_rfl) (by kernel_rfl) (fun _ _ _ h => h) (Or.inl ⟨by rfl, ?y5_30⟩) hS ?r5_30
          case y5_30 => (intro wq hq; (try simp only [cells_cons, cells_nil, and_true] at hq); first | (go_simp; done) | (go_simp; with_reducible rfl) | (obtain ⟨hq1, hq2⟩ := hq; go_simp; with_reducible rfl))
          try simp only [List.getElem_toArray, List.getElem_cons_succ, List.getElem_cons_zero, Act.put, List.setIfInBounds_toArray, List.set_cons_zero, List.set_cons_succ]
          refine wpTill_take (i := 6) (v := ?v6_31) rfl (by kernel_rfl) (by kernel_rfl) (by kernel_rfl) (by kernel_rfl) (fun _ _ _ h => h) (Or.inl ⟨by rfl, ?y6_31⟩) hS ?r6_31
          case y6_31 => (intro wq hq; (try simp only [cells_cons, cells_nil, and_true] at hq); first | (go_simp; done) | (go_simp; with_reducible rfl) | (obtain ⟨hq1, hq2⟩ := hq; go_simp; with_reducible rfl))
          try simp only [List.getElem_toArray, List.getElem_cons_succ, List.getElem_cons_zero, Act.put, List.setIfInBounds_toArray, List.set_cons_zero, List.set_cons_succ]
          refine' wpTill_take (i := 7) (oi := _) (v := .agg #[.int .i64 f'.number, .int .i64 f'.kind, .bool f'.rep, .bool f'.packed, .int .i64 f'.msg]) rfl (by kernel_rfl) (by kernel_rfl) (by kernel_rfl) (by kernel_rfl) (fun _ _ _ h => h) (yieldsIf_load_mid (by rfl) _ _ rfl _ _ rfl [.int .i64 f'.number, .int .i64 f'.kind, .bool f'.rep, .bool f'.packed, .int .i64 f'.msg] _ (fun wq hq => range_fiveA hq) Tryz.underlying44 rfl (by kernel_rfl)) hS ?_
          try simp only [List.getElem_toArray, List.getElem_cons_succ, List.getElem_cons_zero, Act.put, List.setIfInBounds_toArray, List.set_cons_zero, List.set_cons_succ]
          refine wpTill_take (i := 8) (v := ?v8_32) rfl (by kernel_rfl) (by kernel_rfl) (by kernel_rfl) (by kernel_rfl) (fun _ _ _ h => h) (Or.inl ⟨by rfl, ?y8_32⟩) hS ?r8_32
          case y8_32 => (intro wq hq; (try simp only [cells_cons, cells_nil, and_true] at hq); first | (go_simp; done) | (go_simp; with_reducible rfl) | (obtain ⟨hq1, hq2⟩ := hq; go_simp; with_reducible rfl))
          try simp only [List.getElem_toArray, List.getElem_cons_succ, List.getElem_cons_zero, Act.put, List.setIfInBounds_toArray, List.set_cons_zero, List.set_cons_succ]
          refine wpTill_op (i := 9) (by kernel_rfl) rfl (fun K hK => ?_)
          go_simp
          refine hK.out _ _ (fun e => by cases e) ?_
          clear hK K
          refine wpTill_done (by kernel_rfl) ?_ _
          have hst := owns_store_fld HW.out j f'
          rw [setRow_set5 x0.flds j f' (by rw [← HN.out]; exact hj)] at hst
          have hgr : wc.grownBy (((((wc.setCell ⟨rb, j * 5, none⟩ (.int .i64 f'.number)).setCell ⟨rb, j * 5 + 1, none⟩ (.int .i64 f'.kind)).setCell ⟨rb, j * 5 + 2, none⟩ (.bool f'.rep)).setCell ⟨rb, j * 5 + 3, none⟩ (.bool f'.packed)).setCell ⟨rb, j * 5 + 4, none⟩ (.int .i64 f'.msg)) (some rb) := (((((Oth.refl rb wc).setCell _).setCell _).setCell _).setCell _).setCell _
          have hbF : Below (w.heap.size + 1) wc (((((wc.setCell ⟨rb, j * 5, none⟩ (.int .i64 f'.number)).setCell ⟨rb, j * 5 + 1, none⟩ (.int .i64 f'.kind)).setCell ⟨rb, j * 5 + 2, none⟩ (.bool f'.rep)).setCell ⟨rb, j * 5 + 3, none⟩ (.bool f'.packed)).setCell ⟨rb, j * 5 + 4, none⟩ (.int .i64 f'.msg)) := below_grown (Below.refl _ _) hgr (fun b e => by cases e; omega) (by have := box_lt HFc.out.mid.res; omega)
          have hrbS : rb ≠ S := HFc.out.mid.out HW.out rfl (by decide)
          have hMF0 : Mid6b w B S (some ⟨g, 0, none⟩) n cap _ _ (((((wc.setCell ⟨rb, j * 5, none⟩ (.int .i64 f'.number)).setCell ⟨rb, j * 5 + 1, none⟩ (.int .i64 f'.kind)).setCell ⟨rb, j * 5 + 2, none⟩ (.bool f'.rep)).setCell ⟨rb, j * 5 + 3, none⟩ (.bool f'.packed)).setCell ⟨rb, j * 5 + 4, none⟩ (.int .i64 f'.msg)) :=
            ⟨HFc.out.mid.own.row (by decide) HR.out HX.out hgr (fs := x0.flds.set j f') (by rw [List.length_set]; exact HN.out) hst, HFc.out.mid.good.set k (by simpa using hx14) ⟨HXO.out.id, by simpa using HXO.out.n, fun f hf => by
              rcases List.mem_or_eq_of_mem_set hf with hf | rfl
              · exact HXO.out.flds f hf
              · exact HFk.out⟩, (hbF.block _ (by omega)).trans HFc.out.mid.res, (hgr.block S (box_lt HFc.out.mid.box) (fun e => hrbS (by cases e; rfl))).trans HFc.out.mid.box, HFc.out.mid.up.below hBl hbF (by omega)⟩
          have hMF := hMF0.below hBl (Below.refl _ _).drew
          clear hMF0
          obtain ⟨kS', kR', fR', fS'⟩ := seen _ _ _ _ _ _ hMF
          have HMF := Lib.hid hMF; clear hMF hst hgr hbF kS kR fR fS q0 q1 q2 q3 q4 fq d0 d1 d2 d3 d4 hfr hS c0 c1
          go_wp2_with fail
          exact fin _ _ _ _ _ _ HMF.out _ rfl
  · go_wp2_with fail
    refine (l1Below_any B 3 _ hM.up.cur (by omega) (by omega)).mono ?_
    rintro r w4 ⟨y, rfl, hy0, hy1, hc4, ho4⟩
    have hM4 := hM.step hBl hSl hc4 ho4
    clear hM hc4 ho4
    have hM := hM4; clear hM4
    obtain ⟨g, rfl, hg0, hgl, hgS, rid, ra, rn, rcap, x0, hr, hx, hxm, hrn, hrow, c0, c1, hfz⟩ := hM.at hk
    have hgB : g ≠ B := by omega
    have hx14 : x0.flds.length ≤ 14 := hM.good.len x0 hxm
    have HXO := Lib.hid (hM.good.ok x0 hxm)
    have HR := Lib.hid hr; have HX := Lib.hid hx; have HW := Lib.hid hrow; clear hr hx hrow hxm
    have HN := Lib.hid hrn; clear hrn
    obtain ⟨kS, kR, fR, fS⟩ := seen _ _ _ _ _ _ hM
    have HM := Lib.hid hM; clear hM
    have X5 : ∃ x, xs[k]? = some x ∧ x.flds.length ≤ 5 + 0 := ⟨x0, HX.out, by have := H5 x0 (List.mem_of_getElem? HX.out); omega⟩
    clear H5
    rcases (show y = 0 ∨ y = 1 ∨ 2 ≤ y by omega) with rfl | rfl | h2
    · go_upto_region 10 with fail
      refine wp_region_till (Cells [(⟨S, 0, none⟩, .slice (some ⟨g, 0, none⟩) n cap)]) (fun i => decide (8 ≤ i)) (by kernel_rfl) ?_
      have hS : Cells [(⟨S, 0, none⟩, .slice (some ⟨g, 0, none⟩) n cap)] w4.drew := cells_mk kS (cells_no _)
      refine wpTill_take (i := 0) (v := ?v0_33) rfl (by kernel_rfl) (by kernel_rfl) (by kernel_rfl) (by kernel_rfl) (fun _ _ _ h => h) (Or.inl ⟨by rfl, ?y0_33⟩) hS ?r0_33
      case y0_33 => (intro wq hq; (try simp only [cells_cons, cells_nil, and_true] at hq); first | (go_simp; done) | (go_simp; with_reducible rfl) | (obtain ⟨hq1, hq2⟩ := hq; go_simp; with_reducible rfl))
      try simp only [List.getElem_toArray, List.getElem_cons_succ, List.getElem_cons_zero, Act.put, List.setIfInBounds_toArray, List.set_cons_zero, List.set_cons_succ]
      refine wpTill_take (i := 1) (v := ?v1_34) rfl (by kernel_rfl) (by kernel_rfl) (by kernel_rfl) (by kernel_rfl) (fun _ _ _ h => h) (Or.inl ⟨by rfl, ?y1_34⟩) hS ?r1_34
      case y1_34 => (intro wq hq; (try simp only [cells_cons, cells_nil, and_true] at hq); first | (go_simp; done) | (go_simp; with_reducible rfl) | (obtain ⟨hq1, hq2⟩ := hq; go_simp; with_reducible rfl))
      try simp only [List.getElem_toArray, List.getElem_cons_succ, List.getElem_cons_zero, Act.put, List.setIfInBounds_toArray, List.set_cons_zero, List.set_cons_succ]
      refine wpTill_take (i := 2) (v := ?v2_35) rfl (by kernel_rfl) (by kernel_rfl) (by kernel_rfl) (by kernel_rfl) (fun _ _ _ h => h) (Or.inl ⟨by rfl, ?y2_35⟩) hS ?r2_35
      case y2_35 => (intro wq hq; (try simp only [cells_cons, cells_nil, and_true] at hq); first | (go_simp; done) | (go_simp; with_reducible rfl) | (obtain ⟨hq1, hq2⟩ := hq; go_simp; with_reducible rfl))
      try simp only [List.getElem_toArray, List.getElem_cons_succ, List.getElem_cons_zero, Act.put, List.setIfInBounds_toArray, List.set_cons_zero, List.set_cons_succ]
      refine wpTill_take (i := 3) (v := ?v3_36) rfl (by kernel_rfl) (by kernel_rfl) (by kernel_rfl) (by kernel_rfl) (fun _ _ _ h => h) (Or.inl ⟨by rfl, ?y3_36⟩) hS ?r3_36
      case y3_36 => (intro wq hq; (try simp only [cells_cons, cells_nil, and_true] at hq); first | (go_simp; done) | (go_simp; with_reducible rfl) | (obtain ⟨hq1, hq2⟩ := hq; go_simp; with_reducible rfl))
      try simp only [List.getElem_toArray, List.getElem_cons_succ, List.getElem_cons_zero, Act.put, List.setIfInBounds_toArray, List.set_cons_zero, List.set_cons_succ]
      refine wpTill_op (i := 4) (by kernel_rfl) rfl (fun K hK => ?_)
      go_simp
      refine hK.out _ _ (fun _ => (hS.alloc _).drew) ?_
      clear hK K
      try simp only [List.getElem_toArray, List.getElem_cons_succ, List.getElem_cons_zero, Act.put, List.setIfInBounds_toArray, List.set_cons_zero, List.set_cons_succ]
      have hMa := HM.out.below (wy := (w4.alloc (.cells #[.int .i64 0, .int .i64 (-1), .int .i64 100, .int .i64 5, .int .i64 1] 3)).drew) hBl ((Below.refl _ _).alloc (Nat.le_refl _) _).drew
      refine wpTill_op (i := 5) (by kernel_rfl) rfl (fun K hK => ?_)
      go_simp
      refine (l1PickInt_in B w4.heap.size 5 [0, -1, 100, 5, 1] 3 _ hMa.up.cur (by have := box_lt HM.out.box; omega) (hset_drew (hset_new rfl)) (by decide) (by decide)).mono ?_
      rintro r w5 ⟨i, rfl, him, hc5, ho5⟩
      have hiw : W64 i := by
        simp only [List.mem_cons, List.not_mem_nil, or_false] at him
        rcases him with rfl | rfl | rfl | rfl | rfl <;> exact w64_lim (by omega) (by omega)
      have hM5 := hMa.step hBl hSl hc5 ho5
      have hS5 : Cells [(⟨S, 0, none⟩, .slice (some ⟨g, 0, none⟩) n cap)] w5 := cells_mk (box_cells hM5.box 0) (cells_no _)
      have c05 : w5.cell? ⟨g, k * 2, none⟩ = some (.int .i64 rid) := by
        exact own_at hM5.own.outer (by rw [show k * 2 = k * 2 + 0 by rfl, flatMap_at shR_len rs k 0 _ HR.out (by omega)]; rfl)
      have hfz5 : ∀ j, w5.frozen? ⟨g, j, none⟩ = false := hM5.own.outer.frozenAt
      have HM5 := Lib.hid hM5; have HI := Lib.hid hiw; clear hM5 hiw him hc5 ho5 hMa c0 c1 hfz
      refine hK.out _ _ (fun _ => hS5) ?_
      clear hK K hS
      try simp only [List.getElem_toArray, List.getElem_cons_succ, List.getElem_cons_zero, Act.put, List.setIfInBounds_toArray, List.set_cons_zero, List.set_cons_succ]
      refine wpTill_op (i := 6) (by kernel_rfl) rfl (fun K hK => ?_)
      go_simp
      refine hK.out _ _ (fun _ => hS5) ?_
      clear hK K
      try simp only [List.getElem_toArray, List.getElem_cons_succ, List.getElem_cons_zero, Act.put, List.setIfInBounds_toArray, List.set_cons_zero, List.set_cons_succ]
      refine wpTill_op (i := 7) (by kernel_rfl) rfl (fun K hK => ?_)
      go_simp
      refine hK.out _ _ (fun _ => hS5) ?_
      clear hK K
      try simp only [List.getElem_toArray, List.getElem_cons_succ, List.getElem_cons_zero, Act.put, List.setIfInBounds_toArray, List.set_cons_zero, List.set_cons_succ]
      refine wpTill_op (i := 8) (by kernel_rfl) rfl (fun K hK => ?_)
      go_simp
      refine hK.out _ _ (fun e => by cases e) ?_
      clear hK K
      refine wpTill_done (by kernel_rfl) ?_ _
      have hMF := HM5.out.put (o := k * 2) (u := .int .i64 i) hBl (by omega) hgS (HM5.out.own.setId (by decide) HR.out HX.out i) (HM5.out.good.set k (by show x0.flds.length ≤ 14; omega) ⟨HI.out, HXO.out.n, HXO.out.flds⟩)
      obtain ⟨kS', kR', fR', fS'⟩ := seen _ _ _ _ _ _ hMF
      have HMF := Lib.hid hMF; clear hMF hS5 c05 hfz5 kS kR fR fS
      go_wp2_with fail
      exact fin _ _ _ _ _ _ HMF.out _ rfl
    · clear kS kR fR fS c0 c1 hfz HR HX HW HN HXO hgS hgB
      go_wp2_with fail
      go_loopw [] (fun wr => ∃ (a : Option Addr) (n cap : Nat) (rs : List ShR) (xs : List Shp), Mid6b w B S a n cap rs xs wr ∧ n ≤ 7) (fun wr => msr6 S wr)
      case atStart => exact ⟨_, _, _, _, _, HM.out, by omega⟩
      case round =>
        obtain ⟨a, m, cp, rs, xs, hM, hm7⟩ := hrel
        obtain ⟨wq, hwq⟩ : ∃ wq : World, wq = wr := ⟨_, rfl⟩
        subst hwq
        have hmeas := hM.msr
        obtain ⟨kS, kR, fR, fS⟩ := seen _ _ _ _ _ _ hM
        have HM := Lib.hid hM; have HMS := Lib.hid hmeas; clear hM hmeas
        go_upto_region 12 with fail
        refine wp_region_till (Cells [(⟨S, 0, none⟩, .slice a m cp)]) (fun _ => false) (by kernel_rfl) ?_
        have hS : Cells [(⟨S, 0, none⟩, .slice a m cp)] wq.drew := cells_mk kS (cells_no _)
        have HMd := Lib.hid (HM.out.below (wy := wq.drew) hBl (Below.refl _ _).drew)
        refine wpTill_take (i := 0) (v := ?v0_37) rfl (by kernel_rfl) (by kernel_rfl) (by kernel_rfl) (by kernel_rfl) (fun _ _ _ h => h) (Or.inl ⟨by rfl, ?y0_37⟩) hS ?r0_37
        case y0_37 => (intro wq hq; (try simp only [cells_cons, cells_nil, and_true] at hq); first | (go_simp; done) | (go_simp; with_reducible rfl) | (obtain ⟨hq1, hq2⟩ := hq; go_simp; with_reducible rfl))
        try simp only [List.getElem_toArray, List.getElem_cons_succ, List.getElem_cons_zero, Act.put, List.setIfInBounds_toArray, List.set_cons_zero, List.set_cons_succ]
        refine wpTill_take (i := 1) (v := ?v1_38) rfl (by kernel_rfl) (by kernel_rfl) (by kernel_rfl) (by kernel_rfl) (fun _ _ _ h => h) (Or.inl ⟨by rfl, ?y1_38⟩) hS ?r1_38
        case y1_38 => (intro wq hq; (try simp only [cells_cons, cells_nil, and_true] at hq); first | (go_simp; done) | (go_simp; with_reducible rfl) | (obtain ⟨hq1, hq2⟩ := hq; go_simp; with_reducible rfl))
        try simp only [List.getElem_toArray, List.getElem_cons_succ, List.getElem_cons_zero, Act.put, List.setIfInBounds_toArray, List.set_cons_zero, List.set_cons_succ]
        refine wpTill_take (i := 2) (v := ?v2_39) rfl (by kernel_rfl) (by kernel_rfl) (by kernel_rfl) (by kernel_rfl) (fun _ _ _ h => h) (Or.inl ⟨by rfl, ?y2_39⟩) hS ?r2_39
        case y2_39 => (intro wq hq; (try simp only [cells_cons, cells_nil, and_true] at hq); first | (go_simp; done) | (go_simp; with_reducible rfl) | (obtain ⟨hq1, hq2⟩ := hq; go_simp; with_reducible rfl))
        try simp only [List.getElem_toArray, List.getElem_cons_succ, List.getElem_cons_zero, Act.put, List.setIfInBounds_toArray, List.set_cons_zero, List.set_cons_succ]
        refine wpTill_take (i := 3) (v := ?v3_40) rfl (by kernel_rfl) (by kernel_rfl) (by kernel_rfl) (by kernel_rfl) (fun _ _ _ h => h) (Or.inl ⟨by rfl, ?y3_40⟩) hS ?r3_40
        case y3_40 => (intro wq hq; (try simp only [cells_cons, cells_nil, and_true] at hq); first | (go_simp; done) | (go_simp; with_reducible rfl) | (obtain ⟨hq1, hq2⟩ := hq; go_simp; with_reducible rfl))
        try simp only [List.getElem_toArray, List.getElem_cons_succ, List.getElem_cons_zero, Act.put, List.setIfInBounds_toArray, List.set_cons_zero, List.set_cons_succ]
        refine wpTill_op (i := 4) (by kernel_rfl) rfl (fun K hK => ?_)
        go_simp
        refine (l1Below_any B 2 _ HMd.out.up.cur (by omega) (by omega)).mono ?_
        rintro r v3 ⟨i3, rfl, hi30, hi31, hd3, hp3⟩
        have HM3 := Lib.hid (HMd.out.step hBl hSl hd3 hp3)
        have hS3 := hS.oth hp3 (by intro q hq; simp only [List.mem_cons, List.not_mem_nil, or_false] at hq; subst hq; exact hSB)
        clear hd3 hp3 hS
        refine hK.out _ _ (fun _ => hS3) ?_
        clear hK K HMd
        try simp only [List.getElem_toArray, List.getElem_cons_succ, List.getElem_cons_zero, Act.put, List.setIfInBounds_toArray, List.set_cons_zero, List.set_cons_succ]
        have hw6 : IntKind.i64.wrap (6 + i3) = 6 + i3 := by rw [IntKind.wrap_i64]; omega
        refine wpTill_op (i := 5) (by kernel_rfl) rfl (fun K hK => ?_)
        go_simp
        clear hw6
        refine hK.out _ _ (fun _ => hS3) ?_
        clear hK K
        try simp only [List.getElem_toArray, List.getElem_cons_succ, List.getElem_cons_zero, Act.put, List.setIfInBounds_toArray, List.set_cons_zero, List.set_cons_succ]
        refine wpTill_op (i := 6) (by kernel_rfl) rfl (fun K hK => ?_)
        go_simp
        refine hK.out _ _ (fun _ => hS3) ?_
        clear hK K
        refine wpTill_done (by kernel_rfl) ?_ _
        obtain ⟨kS', kR', fR', fS'⟩ := seen _ _ _ _ _ _ HM3.out
        clear kS kR fR fS hS3 HM
        cases hd : decide ((m : Int) < 6 + i3)
        · go_wp2_with fail
          exact fin _ _ _ _ _ _ HM3.out _ rfl
        · have hlt := of_decide_eq_true hd
          have HA := Lib.hid (HM3.out.below (wy := v3.alloc (.cells #[.int .i64 (20 + m), .slice none 0 0] 40)) hBl ((Below.refl _ _).alloc (Nat.le_refl _) _))
          go_wp2_with (first | (at_builtin; refine wpList_append_lies _ rfl _ _ 22 rfl (w.heap.size + 1) 40 iS _ 2 32 Tryz.underlying22 hiS hs0 hs1 hs2 rfl (by decide) _ m (rs.flatMap ShR.cs) rfl HA.out.own.outer ⟨v3.heap.size, 0, none⟩ 1 1 [.int .i64 (20 + m), .slice none 0 0] rfl rfl (World.news_of_block (cs := #[.int .i64 (20 + m), .slice none 0 0]) (t := 40) (fr := (0, 0)) (hset_new rfl)) (by simp [Value.oneCell']) (by omega) (by unfold maxLen; omega) (by omega) (by have := box_lt HA.out.res; omega) _ rfl ?_; intro gn capn w11 hown11 hgr11 hat11 hlt11; have hMF := HA.out.push hBl hSl (by omega) (w64_of (u := 20 + m) (by omega) (by omega)) hown11 hgr11; have hS11 := HA.out.boxAt hgr11; have kS2 := box_cells hS11 0; have fS2 := box_frozen hS11; have HMF2 := Lib.hid hMF; clear hMF hS11 hown11 hgr11 hat11 kS' kR' fR' fS'))
          have hme := HMF2.out.msr
          go_roundw
          case rel => exact ⟨_, _, _, _, _, HMF2.out, by omega⟩
          case measure => rw [hme, HMS.out]; omega
    · clear HX HR HW HN HXO hx14 hgS hgB c0 c1 hfz kS kR fR fS hg0 hgl
      go_wp2_with fail
      go_loopw [5] (fun i wr => ∃ q : Nat, q ≤ 9 ∧ i = .int .i64 q ∧ ∃ (rs : List ShR) (xs : List Shp), Mid6b w B S (some ⟨g, 0, none⟩) n cap rs xs wr ∧ ∃ x, xs[k]? = some x ∧ x.flds.length ≤ 5 + q) (fun i _ => 10 - (intOf i).toNat)
      case atStart => exact ⟨0, by omega, rfl, _, _, HM.out, X5⟩
      case round =>
        obtain ⟨q, hq9, rfl, rs, xs, hM, x0, hx, hx5q⟩ := hrel
        obtain ⟨wq, hwq⟩ : ∃ wq : World, wq = wr := ⟨_, rfl⟩
        subst hwq
        obtain ⟨kS, kR, fR, fS⟩ := seen _ _ _ _ _ _ hM
        have HX := Lib.hid hx; have HM := Lib.hid hM; clear hM hx
        go_wp2_with fail
        refine (l1Below_any B 2 _ HM.out.up.cur (by omega) (by omega)).mono ?_
        rintro r v3 ⟨i3, rfl, hi30, hi31, hd3, hp3⟩
        have HM3 := Lib.hid (HM.out.step hBl hSl hd3 hp3)
        have hw8 : IntKind.i64.wrap (8 + i3) = 8 + i3 := by rw [IntKind.wrap_i64]; omega
        obtain ⟨kS', kR', fR', fS'⟩ := seen _ _ _ _ _ _ HM3.out
        clear kS kR fR fS HM hd3 hp3
        cases hd : decide ((q : Int) < 8 + i3)
        · go_wp2_with fail
          exact fin _ _ _ _ _ _ HM3.out _ rfl
        · have hlt := of_decide_eq_true hd
          have hq8 : q ≤ 8 := by omega
          obtain ⟨g_, eg, hg0, hgl, hgS, rid, ra, rn, rcap, x0_, hr, hx_, hxm, hrn, hrow, c0, c1, hfz⟩ := HM3.out.at hk
          obtain rfl : g = g_ := by simpa using eg
          rw [HX.out] at hx_
          obtain rfl := Option.some.inj hx_
          clear eg
          have hgB : g ≠ B := by omega
          have HXO := Lib.hid (HM3.out.good.ok x0 hxm)
          have HR := Lib.hid hr; have HW := Lib.hid hrow; have HN := Lib.hid hrn; clear hr hrow hxm hx_ hrn
          have hrn14 : rn ≤ 13 := by have := HN.out; omega
          go_upto_region 8 with fail
          refine wp_region_till (Cells [(⟨S, 0, none⟩, .slice (some ⟨g, 0, none⟩) n cap), (⟨g, k * 2 + 1, none⟩, .slice ra rn rcap)]) (fun i => decide (16 ≤ i)) (by kernel_rfl) ?_
          have hS : Cells [(⟨S, 0, none⟩, .slice (some ⟨g, 0, none⟩) n cap), (⟨g, k * 2 + 1, none⟩, .slice ra rn rcap)] v3.drew := cells_mk kS' (cells_mk c1 (cells_no _))
          clear c0 c1 hfz
          refine wpTill_take (i := 0) (v := ?v0_41) rfl (by kernel_rfl) (by kernel_rfl) (by kernel_rfl) (by kernel_rfl) (fun _ _ _ h => h) (Or.inl ⟨by rfl, ?y0_41⟩) hS ?r0_41
          case y0_41 => (intro wq hq; (try simp only [cells_cons, cells_nil, and_true] at hq); first | (go_simp; done) | (go_simp; with_reducible rfl) | (obtain ⟨hq1, hq2⟩ := hq; go_simp; with_reducible rfl))
          try simp only [List.getElem_toArray, List.getElem_cons_succ, List.getElem_cons_zero, Act.put, List.setIfInBounds_toArray, List.set_cons_zero, List.set_cons_succ]
          refine wpTill_take (i := 1) (v := ?v1_42) rfl (by kernel_rfl) (by kernel_rfl) (by kernel_rfl) (by kernel_rfl) (fun _ _ _ h => h) (Or.inl ⟨by rfl, ?y1_42⟩) hS ?r1_42
          case y1_42 => (intro wq hq; (try simp only [cells_cons, cells_nil, and_true] at hq); first | (go_simp; done) | (go_simp; with_reducible rfl) | (obtain ⟨hq1, hq2⟩ := hq; go_simp; with_reducible rfl))
          try simp only [List.getElem_toArray, List.getElem_cons_succ, List.getElem_cons_zero, Act.put, List.setIfInBounds_toArray, List.set_cons_zero, List.set_cons_succ]
          refine wpTill_take (i := 2) (v := ?v2_43) rfl (by kernel_rfl) (by kernel_rfl) (by kernel_rfl) (by kernel_rfl) (fun _ _ _ h => h) (Or.inl ⟨by rfl, ?y2_43⟩) hS ?r2_43
          case y2_43 => (intro wq hq; (try simp only [cells_cons, cells_nil, and_true] at hq); first | (go_simp; done) | (go_simp; with_reducible rfl) | (obtain ⟨hq1, hq2⟩ := hq; go_simp; with_reducible rfl))
          try simp only [List.getElem_toArray, List.getElem_cons_succ, List.getElem_cons_zero, Act.put, List.setIfInBounds_toArray, List.set_cons_zero, List.set_cons_succ]
          refine wpTill_take (i := 3) (v := ?v3_44) rfl (by kernel_rfl) (by kernel_rfl) (by kernel_rfl) (by kernel_rfl) (fun _ _ _ h => h) (Or.inl ⟨by rfl, ?y3_44⟩) hS ?r3_44
          case y3_44 => (intro wq hq; (try simp only [cells_cons, cells_nil, and_true] at hq); first | (go_simp; done) | (go_simp; with_reducible rfl) | (obtain ⟨hq1, hq2⟩ := hq; go_simp; with_reducible rfl))
          try simp only [List.getElem_toArray, List.getElem_cons_succ, List.getElem_cons_zero, Act.put, List.setIfInBounds_toArray, List.set_cons_zero, List.set_cons_succ]
          refine wpTill_take (i := 4) (v := ?v4_45) rfl (by kernel_rfl) (by kernel_rfl) (by kernel_rfl) (by kernel_rfl) (fun _ _ _ h => h) (Or.inl ⟨by rfl, ?y4_45⟩) hS ?r4_45
          case y4_45 => (intro wq hq; (try simp only [cells_cons, cells_nil, and_true] at hq); first | (go_simp; done) | (go_simp; with_reducible rfl) | (obtain ⟨hq1, hq2⟩ := hq; go_simp; with_reducible rfl))
          try simp only [List.getElem_toArray, List.getElem_cons_succ, List.getElem_cons_zero, Act.put, List.setIfInBounds_toArray, List.set_cons_zero, List.set_cons_succ]
          refine wpTill_take (i := 5) (v := ?v5_46) rfl (by kernel_rfl) (by kernel_rfl) (by kernel_rfl) (by kernel_rfl) (fun _ _ _ h => h) (Or.inl ⟨by rfl, ?y5_46⟩) hS ?r5_46
          case y5_46 => (intro wq hq; (try simp only [cells_cons, cells_nil, and_true] at hq); first | (go_simp; done) | (go_simp; with_reducible rfl) | (obtain ⟨hq1, hq2⟩ := hq; go_simp; with_reducible rfl))
          try simp only [List.getElem_toArray, List.getElem_cons_succ, List.getElem_cons_zero, Act.put, List.setIfInBounds_toArray, List.set_cons_zero, List.set_cons_succ]
          refine wpTill_take (i := 6) (v := ?v6_47) rfl (by kernel_rfl) (by kernel_rfl) (by kernel_rfl) (by kernel_rfl) (fun _ _ _ h => h) (Or.inl ⟨by rfl, ?y6_47⟩) hS ?r6_47
          case y6_47 => (intro wq hq; (try simp only [cells_cons, cells_nil, and_true] at hq); first | (go_simp; done) | (go_simp; with_reducible rfl) | (obtain ⟨hq1, hq2⟩ := hq; go_simp; with_reducible rfl))
          try simp only [List.getElem_toArray, List.getElem_cons_succ, List.getElem_cons_zero, Act.put, List.setIfInBounds_toArray, List.set_cons_zero, List.set_cons_succ]
          refine wpTill_take (i := 7) (v := ?v7_48) rfl (by kernel_rfl) (by kernel_rfl) (by kernel_rfl) (by kernel_rfl) (fun _ _ _ h => h) (Or.inl ⟨by rfl, ?y7_48⟩) hS ?r7_48
          case y7_48 => (intro wq hq; (try simp only [cells_cons, cells_nil, and_true] at hq); first | (go_simp; done) | (go_simp; with_reducible rfl) | (obtain ⟨hq1, hq2⟩ := hq; go_simp; with_reducible rfl))
          try simp only [List.getElem_toArray, List.getElem_cons_succ, List.getElem_cons_zero, Act.put, List.setIfInBounds_toArray, List.set_cons_zero, List.set_cons_succ]
          refine wpTill_take (i := 8) (v := ?v8_49) rfl (by kernel_rfl) (by kernel_rfl) (by kernel_rfl) (by kernel_rfl) (fun _ _ _ h => h) (Or.inl ⟨by rfl, ?y8_49⟩) hS ?r8_49
          case y8_49 => (intro wq hq; (try simp only [cells_cons, cells_nil, and_true] at hq); first | (go_simp; done) | (go_simp; with_reducible rfl) | (obtain ⟨hq1, hq2⟩ := hq; go_simp; with_reducible rfl))
          try simp only [List.getElem_toArray, List.getElem_cons_succ, List.getElem_cons_zero, Act.put, List.setIfInBounds_toArray, List.set_cons_zero, List.set_cons_succ]
          refine wpTill_take (i := 9) (v := ?v9_50) rfl (by kernel_rfl) (by kernel_rfl) (by kernel_rfl) (by kernel_rfl) (fun _ _ _ h => h) (Or.inl ⟨by rfl, ?y9_50⟩) hS ?r9_50
          case y9_50 => (intro wq hq; (try simp only [cells_cons, cells_nil, and_true] at hq); first | (go_simp; done) | (go_simp; with_reducible rfl) | (obtain ⟨hq1, hq2⟩ := hq; go_simp; with_reducible rfl))
          try simp only [List.getElem_toArray, List.getElem_cons_succ, List.getElem_cons_zero, Act.put, List.setIfInBounds_toArray, List.set_cons_zero, List.set_cons_succ]
          have hw3 : IntKind.i64.wrap (100 + (q : Int)) = 100 + q := by rw [IntKind.wrap_i64]; omega
          refine wpTill_op (i := 10) (by kernel_rfl) rfl (fun K hK => ?_)
          go_simp
          clear hw3
          refine hK.out _ _ (fun _ => hS) ?_
          clear hK K
          try simp only [List.getElem_toArray, List.getElem_cons_succ, List.getElem_cons_zero, Act.put, List.setIfInBounds_toArray, List.set_cons_zero, List.set_cons_succ]
          refine wpTill_op (i := 11) (by kernel_rfl) rfl (fun K hK => ?_)
          go_simp
          refine hK.out _ _ (fun _ => hS) ?_
          clear hK K
          try simp only [List.getElem_toArray, List.getElem_cons_succ, List.getElem_cons_zero, Act.put, List.setIfInBounds_toArray, List.set_cons_zero, List.set_cons_succ]
          refine wpTill_op (i := 12) (by kernel_rfl) rfl (fun K hK => ?_)
          go_simp
          refine hK.out _ _ (fun _ => (hS.alloc _).drew) ?_
          clear hK K
          try simp only [List.getElem_toArray, List.getElem_cons_succ, List.getElem_cons_zero, Act.put, List.setIfInBounds_toArray, List.set_cons_zero, List.set_cons_succ]
          obtain ⟨W, hWe⟩ : ∃ W : World, W = (v3.alloc (.cells #[.int .i64 (100 + q), .int .i64 1, .bool false, .bool false, .int .i64 0] 44)).drew := ⟨_, rfl⟩
          have hW : Below v3.heap.size v3 W := by rw [hWe]; exact ((Below.refl _ _).alloc (Nat.le_refl _) _).drew
          have hSW : Cells [(⟨S, 0, none⟩, .slice (some ⟨g, 0, none⟩) n cap), (⟨g, k * 2 + 1, none⟩, .slice ra rn rcap)] W := by rw [hWe]; exact (hS.alloc _).drew
          have HNW := Lib.hid (World.news_of_block (w := W) (cs := #[.int .i64 (100 + q), .int .i64 1, .bool false, .bool false, .int .i64 0]) (t := 44) (fr := (0, 0)) (B := v3.heap.size) (by rw [hWe]; exact hset_drew (hset_new rfl)))
          have HMW := Lib.hid (HM3.out.below hBl hW)
          have HOW := Lib.hid ((HMW.out.own.each k _ x0 HR.out HX.out).2.2)
          have hrb : ∀ b, (Value.slice ra rn rcap).ownBlock = some b → w.heap.size < b := fun b e => by have := (HOW.out.lt b e).1; omega
          have hgW : ∀ b, (Value.slice ra rn rcap).ownBlock = some b → b ≠ g := fun b e e' => HMW.out.own.outerNe (by decide) HR.out HX.out e (by rw [e']; rfl)
          have hSW' : ∀ b, (Value.slice ra rn rcap).ownBlock = some b → b ≠ S := fun b e => HMW.out.out HOW.out e (by decide)
          clear hS hW
          refine wpTill_op (i := 13) (by kernel_rfl) rfl (fun K hK => ?_)
          rw [← hWe]
          refine step_append_lies W rfl _ _ 38 rfl (w.heap.size + 1) 44 iF _ 5 32 Tryz.underlying38 hiF hf0 hf1 hf2 rfl (by decide) (.slice ra rn rcap) rn (x0.flds.flatMap Fld.cs) rfl HOW.out ⟨v3.heap.size, 0, none⟩ 1 1 [.int .i64 (100 + q), .int .i64 1, .bool false, .bool false, .int .i64 0] rfl rfl HNW.out (by simp [Value.oneCell']) (by omega) (by have := HN.out; unfold maxLen; omega) (by have := HN.out; omega) (by have := box_lt HMW.out.res; omega) _ rfl ?_
          intro gn capn w11 hown11 hgr11 hat11 hlt11
          have hS11 := hSW.grown hgr11 (by intro q' hq' e; simp only [List.mem_cons, List.not_mem_nil, or_false] at hq'; rcases hq' with rfl | rfl <;> first | exact hSW' _ e rfl | exact hgW _ e rfl)
          refine hK.out _ _ (fun _ => hS11) ?_
          clear hK K hSW
          try simp only [List.getElem_toArray, List.getElem_cons_succ, List.getElem_cons_zero, Act.put, List.setIfInBounds_toArray, List.set_cons_zero, List.set_cons_succ]
          have hO11 := HMW.out.own.outerKept (by decide) HR.out HX.out hgr11
          have hfz : ∀ j, w11.frozen? ⟨g, j, none⟩ = false := hO11.frozenAt
          have hrowc : w11.cell? ⟨g, k * 2 + 1, none⟩ = some (.slice ra rn rcap) := hS11 (⟨g, k * 2 + 1, none⟩, _) (by simp)
          clear hO11
          refine wpTill_op (i := 14) (by kernel_rfl) rfl (fun K hK => ?_)
          go_simp
          refine hK.out _ _ (fun _ => hS11) ?_
          clear hK K
          try simp only [List.getElem_toArray, List.getElem_cons_succ, List.getElem_cons_zero, Act.put, List.setIfInBounds_toArray, List.set_cons_zero, List.set_cons_succ]
          refine wpTill_op (i := 15) (by kernel_rfl) rfl (fun K hK => ?_)
          go_simp
          refine hK.out _ _ (fun _ => hS11) ?_
          clear hK K
          try simp only [List.getElem_toArray, List.getElem_cons_succ, List.getElem_cons_zero, Act.put, List.setIfInBounds_toArray, List.set_cons_zero, List.set_cons_succ]
          refine wpTill_op (i := 16) (by kernel_rfl) rfl (fun K hK => ?_)
          go_simp
          refine hK.out _ _ (fun e => by cases e) ?_
          clear hK K
          refine wpTill_done (by kernel_rfl) ?_ _
          have hOF := HMW.out.own.growAt (by decide) HR.out HX.out hgr11 (a' := some ⟨gn, 0, none⟩) (m' := rn + 1) (cap' := capn) (fs := x0.flds ++ [⟨100 + q, 1, false, false, 0⟩]) (by simp [HN.out]) (by simpa [List.flatMap_append, Fld.cs] using hown11) (fun b e => by have e' : gn = b := Option.some.inj e; subst e'; exact hat11.imp id (fun e => Nat.le_of_eq e.symm))
          have hbF : Below (w.heap.size + 1) W (w11.setCell ⟨g, k * 2 + 1, none⟩ (.slice (some ⟨gn, 0, none⟩) (rn + 1) capn)) := (below_grown (Below.refl _ _) hgr11 (fun b e => by have := hrb b e; omega) (by have := box_lt HMW.out.res; omega)).setCell (by simp; omega) _
          have hMF : Mid6b w B S (some ⟨g, 0, none⟩) n cap _ _ (w11.setCell ⟨g, k * 2 + 1, none⟩ (.slice (some ⟨gn, 0, none⟩) (rn + 1) capn)) := ⟨hOF, HMW.out.good.set k (by simp; have := HN.out; omega) ⟨HXO.out.id, by simp; unfold maxLen; have := HN.out; omega, fun f hf => by
              rcases List.mem_append.1 hf with hf | hf
              · exact HXO.out.flds f hf
              · simp at hf; subst hf; exact ⟨w64_of (by simp only; omega) (by simp only; omega), w64_of (by simp only; omega) (by simp only; omega), w64_of (by simp only; omega) (by simp only; omega)⟩⟩,
            (hbF.block _ (by omega)).trans HMW.out.res, hset_other ((hgr11.block S (box_lt HMW.out.box) (fun e => hSW' S e.symm rfl)).trans HMW.out.box) (by simpa using Ne.symm hgS), HMW.out.up.below hBl hbF (by omega)⟩
          have hxk : (xs.set k ⟨x0.id, x0.flds ++ [⟨100 + q, 1, false, false, 0⟩]⟩)[k]? = some ⟨x0.id, x0.flds ++ [⟨100 + q, 1, false, false, 0⟩]⟩ := List.getElem?_set_self (List.getElem?_eq_some_iff.1 HX.out).1
          have HMF := Lib.hid hMF; have HXK := Lib.hid hxk; clear hMF hxk hS11 hrowc hfz kS' kR' fR' fS' hOF hbF hown11 hgr11
          go_wp2_with fail
          go_roundw
          case rel => exact ⟨q + 1, by omega, by go_num, _, _, HMF.out, _, HXK.out, by simp; omega⟩
          case measure => simp [intOf]; omega
end Go.Proofs.YtbjbgneiglopmaaGreatDoor
namespace Go.Proofs.YtbjbgneiglopmaaGreatDoor
set_option linter.unusedSimpArgs false
set_option linter.unusedVariables false
open Go.ChangeShapes Go.WideShapes Go.ChangeAt Go.RowKit Go.BigFrame
theorem Up.set {B b o : Nat} {w0 w : World} (h : Up B w0 w) (hb : w0.heap.size ≤ b) (hB : B < w0.heap.size) (v : Value) : Up B w0 (w.setCell ⟨b, o, none⟩ v) := by
  have hsz := h.oth.size
  have hk : ∀ k, k < w0.heap.size → (w.setCell ⟨b, o, none⟩ v).heap[k]? = w.heap[k]? := fun k hk => Below.heap_setCell w ⟨b, o, none⟩ v k (by simp; omega)
  refine ⟨h.cur.same fun k hk' => hk k (by omega), ?_⟩
  have h' : w0.grownBy w (some B) := h.oth
  obtain ⟨a, b', c, d, e⟩ := h'
  exact ⟨a, b', c, by simpa [World.setCell] using d, fun k hk' hn => (hk k hk').trans (e k hk' hn)⟩
theorem Up.drew {B : Nat} {w0 w : World} (h : Up B w0 w) : Up B w0 w.drew := by
  obtain ⟨hc, ho⟩ := h
  have h' : w0.grownBy w (some B) := ho
  obtain ⟨a, b', c, d, e⟩ := h'
  exact ⟨hc, ⟨a, b', c, d, e⟩⟩
def DrawnS (B : Nat) (l : List ByteArray) (w : World) (r : Ending) (w' : World) : Prop := ∃ x : ByteArray, r = .returned (.string x) ∧ x ∈ l ∧ Cur w' B ∧ Oth B w w'
theorem l1Pick_any (B g cap : Nat) (l : List ByteArray) (t : TypeId) (w : World) (hc : Cur w B) (hg : g ≠ B) (h : w.heap[g]? = some (.cells (l.map Value.string).toArray t (0, 0))) (h0 : 0 < l.length) (h1 : l.length ≤ 256) :
    Calls Tryz.prog 60 #[.pointer (some ⟨B, 0, none⟩), .slice (some ⟨g, 0, none⟩) l.length cap] w (DrawnS B l w) := by
  obtain ⟨n, hn⟩ : ∃ n, n = l.length := ⟨_, rfl⟩
  rw [← hn] at h0 h1 ⊢
  have HN := Lib.hid hn; clear hn
  have HH := Lib.hid h; clear h
  go_enter Tryz.func60, Tryz.ntmps60
  go_wp2_with fail
  refine (l1Below_any B n w hc (by omega) (by omega)).mono ?_
  rintro r w1 ⟨x, rfl, hx0, hx1, hc1, ho1⟩
  obtain ⟨k, rfl⟩ := Int.eq_ofNat_of_zero_le hx0
  have hgl : g < w.heap.size := box_lt HH.out
  have hb := (ho1.block hgl hg).trans HH.out
  have hk : k < l.length := by have := HN.out; omega
  obtain ⟨x, hx⟩ : ∃ x, x = l[k] := ⟨_, rfl⟩
  have hcx : w1.cell? ⟨g, k, none⟩ = some (.string x) := by simp [World.cell?, hb, hk, hx]
  have HM := Lib.hid (show x ∈ l from hx ▸ List.getElem_mem hk)
  clear hb hx
  go_wp2
  go_ret
  exact ⟨x, rfl, HM.out, hc1, ho1⟩
theorem l1Below_all (B : Nat) (n : Int) (w : World) (hc : Cur w B) (h0 : 0 < n) (h1 : n ≤ 4294967296) : Calls Tryz.prog 48 #[.pointer (some ⟨B, 0, none⟩), .int .i64 n] w (Drawn B 0 (n - 1) w) := by
  by_cases h : n ≤ 256
  · exact l1Below_any B n w hc h0 h
  · exact l1Below_big B n w hc (by omega) h1
theorem extract_le (s : ByteArray) (a b : Nat) : (s.extract a b).size ≤ s.size := by rw [ByteArray.size_extract]; omega
def turnL : List ByteArray := [⟨#[32]⟩, ⟨#[44]⟩, ⟨#[59]⟩, ⟨#[58]⟩, ⟨#[48]⟩, ⟨#[49]⟩, ⟨#[112, 97, 99, 107, 101, 100]⟩, ⟨#[32, 114, 101, 112, 101, 97, 116, 101, 100]⟩, ⟨#[120]⟩]
theorem turnL_len : ∀ x ∈ turnL, x.size ≤ 9 := by intro x hx; simp only [turnL, List.mem_cons, List.not_mem_nil, or_false] at hx; rcases hx with rfl | rfl | rfl | rfl | rfl | rfl | rfl | rfl | rfl <;> decide
def DrawnTx (B m : Nat) (w : World) (r : Ending) (w' : World) : Prop := ∃ t : ByteArray, r = .returned (.string t) ∧ t.size ≤ m ∧ Up B w w'
set_option maxRecDepth 100000 in
set_option maxHeartbeats 4000000 in
theorem l9Turned_any (B : Nat) (s : ByteArray) (w : World) (hc : Cur w B) (hs : s.size ≤ 1000000) : Calls Tryz.prog 34 #[.pointer (some ⟨B, 0, none⟩), .string s] w (DrawnTx B (s.size + 9) w) := by
  have hBl := hc.lt
  go_enter Tryz.func34, Tryz.ntmps34
  go_wp2_with fail
  refine (l1Below_all B (s.size + 1) w hc (by omega) (by omega)).mono ?_
  rintro r w1 ⟨x, rfl, hx0, hx1, hc1, ho1⟩
  obtain ⟨k, rfl⟩ := Int.eq_ofNat_of_zero_le hx0
  have hks : k ≤ s.size := by omega
  go_wp2_with fail
  refine (l1Below_any B 6 w1 hc1 (by omega) (by omega)).mono ?_
  rintro r w2 ⟨y, rfl, hy0, hy1, hc2, ho2⟩
  have hu2 : Up B w w2 := ((Up.refl hc).step hc1 ho1).step hc2 ho2
  have HU2 := Lib.hid hu2; clear hu2 hc2 ho2 hc1 ho1 hx1
  rcases (show y = 0 ∨ y = 1 ∨ 2 ≤ y by omega) with rfl | rfl | h5
  · go_wp2_with fail
    obtain ⟨P, hP⟩ : ∃ P, s.extract 0 k = P := ⟨_, rfl⟩
    obtain ⟨Q, hQ⟩ : ∃ Q, s.extract k s.size = Q := ⟨_, rfl⟩
    have hPl : P.size ≤ s.size := by rw [← hP]; exact extract_le _ _ _
    have hPQ : P.size + Q.size ≤ s.size := by rw [← hP, ← hQ, ByteArray.size_extract, ByteArray.size_extract]; omega
    refine wp_region_till (Cells []) (fun _ => false) (by kernel_rfl) ?_
    have hS : Cells [] w2.drew := cells_no _
    have hcd : Up B w w2.drew := Up.drew HU2.out
    have HD := Lib.hid hcd; clear hcd
    obtain ⟨wd, hwd⟩ : ∃ wd, w2.drew = wd := ⟨_, rfl⟩
    rw [hwd] at hS HD ⊢
    clear hwd HU2
    refine wpTill_take (i := 0) (v := ?v0_51) rfl (by kernel_rfl) (by kernel_rfl) (by kernel_rfl) (by kernel_rfl) (fun _ _ _ h => h) (Or.inl ⟨by rfl, ?y0_51⟩) hS ?r0_51
    case y0_51 => (intro wq hq; (try simp only [cells_cons, cells_nil, and_true] at hq); first | (go_simp; done) | (go_simp; with_reducible rfl) | (obtain ⟨hq1, hq2⟩ := hq; go_simp; with_reducible rfl))
    try simp only [List.getElem_toArray, List.getElem_cons_succ, List.getElem_cons_zero, Act.put, List.setIfInBounds_toArray, List.set_cons_zero, List.set_cons_succ]
    refine wpTill_take (i := 1) (v := ?v1_52) rfl (by kernel_rfl) (by kernel_rfl) (by kernel_rfl) (by kernel_rfl) (fun _ _ _ h => h) (Or.inl ⟨by rfl, ?y1_52⟩) hS ?r1_52
    case y1_52 => (intro wq hq; (try simp only [cells_cons, cells_nil, and_true] at hq); first | (go_simp; done) | (go_simp; with_reducible rfl) | (obtain ⟨hq1, hq2⟩ := hq; go_simp; with_reducible rfl))
    try simp only [List.getElem_toArray, List.getElem_cons_succ, List.getElem_cons_zero, Act.put, List.setIfInBounds_toArray, List.set_cons_zero, List.set_cons_succ]
    refine wpTill_take (i := 2) (v := ?v2_53) rfl (by kernel_rfl) (by kernel_rfl) (by kernel_rfl) (by kernel_rfl) (fun _ _ _ h => h) (Or.inl ⟨by rfl, ?y2_53⟩) hS ?r2_53
    case y2_53 => (intro wq hq; (try simp only [cells_cons, cells_nil, and_true] at hq); first | (go_simp; done) | (go_simp; with_reducible rfl) | (obtain ⟨hq1, hq2⟩ := hq; go_simp; with_reducible rfl))
    try simp only [List.getElem_toArray, List.getElem_cons_succ, List.getElem_cons_zero, Act.put, List.setIfInBounds_toArray, List.set_cons_zero, List.set_cons_succ]
    refine wpTill_take (i := 3) (v := ?v3_54) rfl (by kernel_rfl) (by kernel_rfl) (by kernel_rfl) (by kernel_rfl) (fun _ _ _ h => h) (Or.inl ⟨by rfl, ?y3_54⟩) hS ?r3_54
    case y3_54 => (intro wq hq; (try simp only [cells_cons, cells_nil, and_true] at hq); first | (go_simp; done) | (go_simp; with_reducible rfl) | (obtain ⟨hq1, hq2⟩ := hq; go_simp; with_reducible rfl))
    try simp only [List.getElem_toArray, List.getElem_cons_succ, List.getElem_cons_zero, Act.put, List.setIfInBounds_toArray, List.set_cons_zero, List.set_cons_succ]
    refine wpTill_take (i := 7) (v := ?v7_55) rfl (by kernel_rfl) (by kernel_rfl) (by kernel_rfl) (by kernel_rfl) (fun _ _ _ h => h) (Or.inl ⟨by rfl, ?y7_55⟩) hS ?r7_55
    case y7_55 => (intro wq hq; (try simp only [cells_cons, cells_nil, and_true] at hq); first | (go_simp; done) | (go_simp; with_reducible rfl) | (obtain ⟨hq1, hq2⟩ := hq; go_simp; with_reducible rfl))
    try simp only [List.getElem_toArray, List.getElem_cons_succ, List.getElem_cons_zero, Act.put, List.setIfInBounds_toArray, List.set_cons_zero, List.set_cons_succ]
    refine wpTill_take (i := 8) (v := ?v8_56) rfl (by kernel_rfl) (by kernel_rfl) (by kernel_rfl) (by kernel_rfl) (fun _ _ _ h => h) (Or.inl ⟨by rfl, ?y8_56⟩) hS ?r8_56
    case y8_56 => (intro wq hq; (try simp only [cells_cons, cells_nil, and_true] at hq); first | (go_simp; done) | (go_simp; with_reducible rfl) | (obtain ⟨hq1, hq2⟩ := hq; go_simp; with_reducible rfl))
    try simp only [List.getElem_toArray, List.getElem_cons_succ, List.getElem_cons_zero, Act.put, List.setIfInBounds_toArray, List.set_cons_zero, List.set_cons_succ]
    refine wpTill_take (i := 9) (v := ?v9_57) rfl (by kernel_rfl) (by kernel_rfl) (by kernel_rfl) (by kernel_rfl) (fun _ _ _ h => h) (Or.inl ⟨by rfl, ?y9_57⟩) hS ?r9_57
    case y9_57 => (intro wq hq; (try simp only [cells_cons, cells_nil, and_true] at hq); first | (go_simp; done) | (go_simp; with_reducible rfl) | (obtain ⟨hq1, hq2⟩ := hq; go_simp; with_reducible rfl))
    try simp only [List.getElem_toArray, List.getElem_cons_succ, List.getElem_cons_zero, Act.put, List.setIfInBounds_toArray, List.set_cons_zero, List.set_cons_succ]
    clear hP hQ
    refine wpTill_op (i := 4) (by kernel_rfl) rfl (fun K hK => ?_)
    go_simp
    refine hK.out _ _ (fun _ => cells_no _) ?_
    clear hK K
    try simp only [List.getElem_toArray, List.getElem_cons_succ, List.getElem_cons_zero, Act.put, List.setIfInBounds_toArray, List.set_cons_zero, List.set_cons_succ]
    refine wpTill_op (i := 5) (by kernel_rfl) rfl (fun K hK => ?_)
    go_simp
    have hzd := HD.out.oth.size
    have hua := HD.out.alloc hBl (.cells (turnL.map Value.string).toArray 9)
    refine (l1Pick_any B wd.heap.size 9 turnL 9 (wd.alloc (.cells (turnL.map Value.string).toArray 9)) hua.cur (by omega) (hset_new rfl) (by decide) (by decide)).mono ?_
    rintro r w3 ⟨t, rfl, htm, hc3, ho3⟩
    have htl := turnL_len t htm
    have hu3 := hua.step hc3 ho3
    have HU3 := Lib.hid hu3; clear hu3 hua hc3 ho3 htm HD
    refine hK.out _ _ (fun _ => cells_no _) ?_
    clear hK K
    try simp only [List.getElem_toArray, List.getElem_cons_succ, List.getElem_cons_zero, Act.put, List.setIfInBounds_toArray, List.set_cons_zero, List.set_cons_succ]
    have e1 : ¬ 9223372036854775807 < P.size + t.size := by omega
    have e2 : ¬ 9223372036854775807 < P.size + t.size + Q.size := by omega
    refine wpTill_op (i := 6) (by kernel_rfl) rfl (fun K hK => ?_)
    go_simp
    refine hK.out _ _ (fun _ => cells_no _) ?_
    clear hK K
    try simp only [List.getElem_toArray, List.getElem_cons_succ, List.getElem_cons_zero, Act.put, List.setIfInBounds_toArray, List.set_cons_zero, List.set_cons_succ]
    refine wpTill_op (i := 10) (by kernel_rfl) rfl (fun K hK => ?_)
    go_simp
    refine hK.out _ _ (fun _ => cells_no _) ?_
    clear hK K
    try simp only [List.getElem_toArray, List.getElem_cons_succ, List.getElem_cons_zero, Act.put, List.setIfInBounds_toArray, List.set_cons_zero, List.set_cons_succ]
    refine wpTill_op (i := 11) (by kernel_rfl) rfl (fun K hK => ?_)
    go_simp
    refine hK.out _ _ (fun _ => cells_no _) ?_
    clear hK K
    refine wpTill_done (by kernel_rfl) ?_ _
    try simp only [List.getElem_toArray, List.getElem_cons_succ, List.getElem_cons_zero, Act.put, List.setIfInBounds_toArray, List.set_cons_zero, List.set_cons_succ]
    go_step
    go_wp2_with fail
    go_ret
    exact ⟨_, rfl, by rw [ByteArray.size_append, ByteArray.size_append]; omega, HU3.out⟩
  · go_wp2_with fail
    go_ret
    exact ⟨_, rfl, Nat.le_trans (extract_le _ _ _) (by omega), HU2.out⟩
  · have y0 : (y == 0) = false := by simp; omega
    have y1 : (y == 1) = false := by simp; omega
    go_wp2_with fail
    go_ret
    exact ⟨_, rfl, by omega, HU2.out⟩
end Go.Proofs.YtbjbgneiglopmaaGreatDoor
namespace Go.Proofs.YtbjbgneiglopmaaGreatDoor.smr
set_option linter.unusedSimpArgs false
set_option linter.unusedVariables false
open Go.ChangeShapes Go.WideShapes Go.ChangeAt Go.RowKit Go.BigFrame
def sameF (f g : Fld) : Bool := decide (f = g)
theorem run_neq_fld (a b e a' b' e' : Int) (p q p' q' : Bool) (w : World) :
    (binOp .neq 44 (.agg #[.int .i64 a, .int .i64 b, .bool p, .bool q, .int .i64 e]) (.agg #[.int .i64 a', .int .i64 b', .bool p', .bool q', .int .i64 e'])).run Tryz.prog w = .ok (.bool (!sameF ⟨a, b, p, q, e⟩ ⟨a', b', p', q', e'⟩)) w := by
  simp [go_sem, sameF]
  by_cases h1 : a = a' <;> by_cases h2 : b = b' <;> by_cases h3 : p = p' <;> by_cases h4 : q = q' <;> by_cases h5 : e = e' <;> simp [h1, h2, h3, h4, h5]
theorem ne_of_at {α : Type} [DecidableEq α] {xs ys : List α} {k : Nat} {e f : α} (he : xs[k]? = some e) (hf : ys[k]? = some f) (h : ¬ e = f) : decide (xs = ys) = false := by
  simp only [decide_eq_false_iff_not]; rintro rfl; rw [he] at hf; simp at hf; exact h hf
theorem take_same {α : Type} {xs ys : List α} {k : Nat} {e : α} (h : xs.take k = ys.take k) (he : xs[k]? = some e) (hf : ys[k]? = some e) : xs.take (k + 1) = ys.take (k + 1) := by
  rw [List.take_add_one, List.take_add_one, h, he, hf]
theorem take_end {α : Type} [DecidableEq α] {xs ys : List α} {k : Nat} (h : xs.take k = ys.take k) (h1 : xs.length ≤ k) (h2 : ys.length ≤ k) : decide (xs = ys) = true := by
  rw [List.take_of_length_le h1, List.take_of_length_le h2] at h; simp [h]
theorem heap_new1 (w : World) (o1 o2 : Obj) : ((w.alloc o1).alloc o2).heap[w.heap.size + 1]? = some o2 := by
  have h := heap_alloc_new (w.alloc o1) o2
  rw [World.size_alloc] at h; exact h
set_option maxHeartbeats 4000000 in
theorem specSameRaw_any (a a' : Option Addr) (cap cap' n n' : Nat) (xs ys : List Shp) (w : World) (h : Shs w a xs) (h' : Shs w a' ys) (hx : xs.length = n) (hy : ys.length = n') (hn : n ≤ 1048576) (hn' : n' ≤ 1048576) (hm : fldSum xs ≤ 1048576) (hm' : fldSum ys ≤ 1048576) :
    Calls Tryz.prog 15 #[.agg #[.slice a n cap], .agg #[.slice a' n' cap']] w fun r w' => r = .returned (.bool (decide (xs = ys))) ∧ Below w.heap.size w w' := by
  have HX := Lib.hid hx; clear hx
  have HY := Lib.hid hy; clear hy
  by_cases hl : n = n'
  · subst hl
    go_enter Tryz.func15, Tryz.ntmps15
    go_wp2
    have hbx0 := Lib.hid (box_cells (heap_nth1 w (.cells #[.slice a n cap] 24) (.cells #[.slice a' n cap'] 24)))
    go_loopw [4, 5] (fun t j wr => ∃ k : Nat, k ≤ n ∧ j = .int .i64 k ∧ t = .bool false ∧ Hid (xs.take k = ys.take k) ∧ Below w.heap.size w wr ∧ (∀ i, wr.cell? ⟨w.heap.size, i, none⟩ = (#[.slice a n cap] : Array Value)[i]?) ∧ (∀ i, wr.cell? ⟨w.heap.size + 1, i, none⟩ = (#[.slice a' n cap'] : Array Value)[i]?) ∧ w.heap.size + 1 < wr.heap.size) (fun _ i _ => n - (intOf i).toNat)
    case atStart => exact ⟨0, Nat.zero_le _, rfl, rfl, Lib.hid rfl, by ((repeat (first | (with_reducible exact Below.refl _ _) | (with_reducible assumption) | (with_reducible refine Below.alloc ?_ ?_ _) | (with_reducible refine Below.setCell ?_ ?_ _) | (with_reducible refine Below.drew ?_) | (with_reducible refine below_setRow ?_ ?_ _) | (refine Below.trans ?_ (Below.mono (by assumption) ?_)))); all_goals (first | omega | (simp; done) | (simp; omega))), hbx0.out, box_cells (heap_new1 w _ _), by simp⟩
    case round =>
      obtain ⟨k, hk, rfl, rfl, HT, hb, kA, kB, hzz⟩ := hrel
      have hz := hb.size
      by_cases hlt : k < n
      · obtain ⟨e, he, _⟩ := at_lt (xs := xs) (k := k) (by rw [HX.out]; exact hlt)
        obtain ⟨f, hf, _⟩ := at_lt (xs := ys) (k := k) (by rw [HY.out]; exact hlt)
        have HE := Lib.hid he
        have HF := Lib.hid hf
        have hne := Nat.le_trans (fldSum_ge he) hm
        have hnf := Nat.le_trans (fldSum_ge hf) hm'
        obtain ⟨b, off, a1, cap1, rfl, hlb, c0, c1, hs1⟩ := h.below hb (Nat.le_refl _) k e he
        obtain ⟨b', off', a2, cap2, rfl, hlb', d0, d1, hs2⟩ := h'.below hb (Nat.le_refl _) k f hf
        clear he hf
        have HS1 := Lib.hid hs1; clear hs1
        have HS2 := Lib.hid hs2; clear hs2
        by_cases hid : e.id = f.id
        · by_cases hlen : e.flds.length = f.flds.length
          · have hid' : (e.id != f.id) = false := by simp [hid]
            have hlen' : ((e.flds.length : Int) != (f.flds.length : Int)) = false := by simp [hlen]
            have HID := Lib.hid hid; clear hid
            have HLEN := Lib.hid hlen; clear hlen
            go_wp2
            obtain ⟨wo, rfl⟩ : ∃ wo : World, wo = wr := ⟨_, rfl⟩
            have hbx1 := Lib.hid (box_cells (heap_nth1 wo (.cells #[.int .i64 e.id, .slice a1 e.flds.length cap1] 40) (.cells #[.int .i64 f.id, .slice a2 f.flds.length cap2] 40)))
            have hbx2 := Lib.hid (box_cells (heap_new1 wo (.cells #[.int .i64 e.id, .slice a1 e.flds.length cap1] 40) (.cells #[.int .i64 f.id, .slice a2 f.flds.length cap2] 40)))
            go_loopw [4, 8] (fun t j wr => ∃ q : Nat, q ≤ e.flds.length ∧ j = .int .i64 q ∧ t = .bool false ∧ Hid (e.flds.take q = f.flds.take q) ∧ Below wo.heap.size wo wr ∧ (∀ i, wr.cell? ⟨wo.heap.size, i, none⟩ = (#[.int .i64 e.id, .slice a1 e.flds.length cap1] : Array Value)[i]?) ∧ (∀ i, wr.cell? ⟨wo.heap.size + 1, i, none⟩ = (#[.int .i64 f.id, .slice a2 f.flds.length cap2] : Array Value)[i]?) ∧ wo.heap.size + 1 < wr.heap.size) (fun _ i _ => e.flds.length - (intOf i).toNat)
            case atStart => exact ⟨0, Nat.zero_le _, rfl, rfl, Lib.hid rfl, by ((repeat (first | (with_reducible exact Below.refl _ _) | (with_reducible assumption) | (with_reducible refine Below.alloc ?_ ?_ _) | (with_reducible refine Below.setCell ?_ ?_ _) | (with_reducible refine Below.drew ?_) | (with_reducible refine below_setRow ?_ ?_ _) | (refine Below.trans ?_ (Below.mono (by assumption) ?_)))); all_goals (first | omega | (simp; done) | (simp; omega))), hbx1.out, hbx2.out, by simp⟩
            case round =>
              obtain ⟨q, hq, rfl, rfl, HT1, hb1, kC, kD, hzi⟩ := hrel
              have hzi0 : wo.heap.size < wr.heap.size := by omega
              by_cases hqlt : q < e.flds.length
              · obtain ⟨g, hg, _⟩ := at_lt (xs := e.flds) (k := q) hqlt
                obtain ⟨g', hg', _⟩ := at_lt (xs := f.flds) (k := q) (by rw [← HLEN.out]; exact hqlt)
                have HG := Lib.hid hg
                have HG' := Lib.hid hg'
                have hqlt2 : q < f.flds.length := by rw [← HLEN.out]; exact hqlt
                obtain ⟨p, o, rfl, hp, x0, x1, x2, x3, x4⟩ := Flds.at (Sl.keep HS1.out hb1) hg
                obtain ⟨p', o', rfl, hp', y0, y1, y2, y3, y4⟩ := Flds.at (Sl.keep HS2.out hb1) hg'
                clear hg hg'
                by_cases hgg : g = g'
                · have hd : sameF g g' = true := by simp [sameF, hgg]
                  have HD := Lib.hid hgg; clear hgg
                  have HT2 := Lib.hid (take_same HT1.out HG.out (by rw [HD.out]; exact HG'.out))
                  have hne := run_neq_fld
                  go_wp2_with fail
                  (refine wp_region_ext (by kernel_rfl) (by kernel_rfl) ?_; (repeat (go_big_quiet_step (fail))); refine wpQuiet_nil ?_; intro w1 hb1; obtain ⟨hc1, hf1⟩ := bcell hb1; have hz1 := hb1.size; (try simp only [World.size_alloc, World.size_setCell, World.size_drew] at hz1))
                  go_wp2
                  go_roundw
                  case rel => exact ⟨q + 1, by omega, by go_num, rfl, HT2, by ((repeat (first | (with_reducible exact Below.refl _ _) | (with_reducible assumption) | (with_reducible refine Below.alloc ?_ ?_ _) | (with_reducible refine Below.setCell ?_ ?_ _) | (with_reducible refine Below.drew ?_) | (with_reducible refine below_setRow ?_ ?_ _) | (refine Below.trans ?_ (Below.mono (by assumption) ?_)))); all_goals (first | omega | (simp; done) | (simp; omega))), box_next hb1 (by omega) kC, box_next hb1 (by omega) kD, by omega⟩
                  case measure => simp [intOf]; omega
                · have hd : sameF g g' = false := by simp [sameF, hgg]
                  have HS := Lib.hid (ne_of_at HE.out HF.out (by rintro rfl; exact hgg (by have h1 := HG.out; rw [HG'.out] at h1; simpa using h1.symm)))
                  clear hgg
                  have hne := run_neq_fld
                  go_wp2_with fail
                  (refine wp_region_ext (by kernel_rfl) (by kernel_rfl) ?_; (repeat (go_big_quiet_step (fail))); refine wpQuiet_nil ?_; intro w1 hb1; obtain ⟨hc1, hf1⟩ := bcell hb1; have hz1 := hb1.size; (try simp only [World.size_alloc, World.size_setCell, World.size_drew] at hz1))
                  go_wp2
                  go_ret
                  exact ⟨ret_bool HS.out.symm, by ((repeat (first | (with_reducible exact Below.refl _ _) | (with_reducible assumption) | (with_reducible refine Below.alloc ?_ ?_ _) | (with_reducible refine Below.setCell ?_ ?_ _) | (with_reducible refine Below.drew ?_) | (with_reducible refine below_setRow ?_ ?_ _) | (refine Below.trans ?_ (Below.mono (by assumption) ?_)))); all_goals (first | omega | (simp; done) | (simp; omega)))⟩
              · have HEF := Lib.hid (show e = f by
                  have h1 := HT1.out
                  rw [List.take_of_length_le (by omega), List.take_of_length_le (by have := HLEN.out; omega)] at h1
                  obtain ⟨i, x⟩ := e; obtain ⟨j, y⟩ := f; simp only at h1; have h2 := HID.out; simp only at h2; rw [h1, h2])
                have HT2 := Lib.hid (take_same HT.out HE.out (by rw [HEF.out]; exact HF.out))
                have hzi2 := hb1.size
                go_wp2
                go_roundw
                case rel => exact ⟨k + 1, by omega, by go_num, rfl, HT2, by ((repeat (first | (with_reducible exact Below.refl _ _) | (with_reducible assumption) | (with_reducible refine Below.alloc ?_ ?_ _) | (with_reducible refine Below.setCell ?_ ?_ _) | (with_reducible refine Below.drew ?_) | (with_reducible refine below_setRow ?_ ?_ _) | (refine Below.trans ?_ (Below.mono (by assumption) ?_)))); all_goals (first | omega | (simp; done) | (simp; omega))), box_next hb1 (by omega) kA, box_next hb1 (by omega) kB, by omega⟩
                case measure => simp [intOf]; omega
          · have hid' : (e.id != f.id) = false := by simp [hid]
            have hlen' : ((e.flds.length : Int) != (f.flds.length : Int)) = true := by simp; omega
            have HS := Lib.hid (ne_of_at HE.out HF.out (by rintro rfl; exact hlen rfl))
            clear hid hlen
            go_wp2
            go_ret
            exact ⟨ret_bool HS.out.symm, by ((repeat (first | (with_reducible exact Below.refl _ _) | (with_reducible assumption) | (with_reducible refine Below.alloc ?_ ?_ _) | (with_reducible refine Below.setCell ?_ ?_ _) | (with_reducible refine Below.drew ?_) | (with_reducible refine below_setRow ?_ ?_ _) | (refine Below.trans ?_ (Below.mono (by assumption) ?_)))); all_goals (first | omega | (simp; done) | (simp; omega)))⟩
        · have hid' : (e.id != f.id) = true := by simp [hid]
          have HS := Lib.hid (ne_of_at HE.out HF.out (by rintro rfl; exact hid rfl))
          clear hid
          go_wp2
          go_ret
          exact ⟨ret_bool HS.out.symm, by ((repeat (first | (with_reducible exact Below.refl _ _) | (with_reducible assumption) | (with_reducible refine Below.alloc ?_ ?_ _) | (with_reducible refine Below.setCell ?_ ?_ _) | (with_reducible refine Below.drew ?_) | (with_reducible refine below_setRow ?_ ?_ _) | (refine Below.trans ?_ (Below.mono (by assumption) ?_)))); all_goals (first | omega | (simp; done) | (simp; omega)))⟩
      · have HS := Lib.hid (take_end HT.out (by rw [HX.out]; omega) (by rw [HY.out]; omega))
        go_wp2
        go_ret
        exact ⟨ret_bool HS.out.symm, hb⟩
  · have HS := Lib.hid (show decide (xs = ys) = false by
      simp only [decide_eq_false_iff_not]; intro hxy; subst hxy; exact hl (HX.out.symm.trans HY.out))
    have hl' : ((n : Int) != (n' : Int)) = true := by simp; omega
    go_enter Tryz.func15, Tryz.ntmps15
    go_wp2
    go_ret
    exact ⟨ret_bool HS.out.symm, by ((repeat (first | (with_reducible exact Below.refl _ _) | (with_reducible assumption) | (with_reducible refine Below.alloc ?_ ?_ _) | (with_reducible refine Below.setCell ?_ ?_ _) | (with_reducible refine Below.drew ?_) | (with_reducible refine below_setRow ?_ ?_ _) | (refine Below.trans ?_ (Below.mono (by assumption) ?_)))); all_goals (first | omega | (simp; done) | (simp; omega)))⟩
end Go.Proofs.YtbjbgneiglopmaaGreatDoor.smr
namespace Go.Proofs.YtbjbgneiglopmaaGreatDoor
open Go
theorem wrap_laid {H : Type} {enc : TypeId × Value → H} {C : Checked} {os : Os} {f : FuncId} {fn : Func} {s : ChangeSpec} {conds : List PathCond} {X : World → Prop}
    (hX : ∀ w w' : World, w.heap = w'.heap → X w → X w') (own : ownKnob C.prog.godebug = none) (started : os.Started) (noInit : C.prog.inits.idxOf? f = none) (hfn : C.prog.funcs[f]? = some fn)
    (wit : ∃ (w : World) (tape : Tape) (i : Input), w.os = os ∧ (w.forCall tape i).Shaped C.prog ∧ i.vars = [] ∧ Input.okWide C.prog (w.forCall tape i) .any w.heap.size f i ∧
      ((s.pre enc C.prog fn conds false (w.forCall tape i).memory i.args ∧ X (w.forCall tape i).memory) ∧ sizedMet enc C.prog fn (OpenSpec.ofChange s) false (w.forCall tape i).memory i.args) ∧ ({} : Assume).holds C.prog (lone (Frame.enter C.prog f i.args .normal) [] (w.forCall tape i)))
    (contract : ∀ (W : World) (base : Nat) (args : Array Value) (ds gs : List (DataW H)) (before : List MemPlace),
      (∀ (j : Nat) t v, fn.params[j]? = some t → args[j]? = some v → Value.okWide C.prog W .any base t v) → DataW.Whole enc C.prog fn.params.toList s.vars false W args.toList ds gs before →
      conds.all (PathCond.test C.prog ⟨fn.params.toList, ds, s.plain.varTypes C.prog, gs⟩) = true → (DataW.weightsEach C.prog (fn.params.toList ++ s.plain.varTypes C.prog) (ds ++ gs)).all (· ≤ reachBytes) = true → X W → W.ShapedOpen C.prog →
      Calls C.prog f args W fun e W' => ∃ v, e = .returned v ∧ s.post enc C.prog fn false true false false W args v W') :
    ReturnsInHanded {} C os f .any (fun w args => (s.pre enc C.prog fn conds false w args ∧ X w) ∧ sizedMet enc C.prog fn (OpenSpec.ofChange s) false w args) (s.post enc C.prog fn false true false false) := by
  refine returnsInHanded_of_calls own started noInit wit ?_
  intro w tape i _ hsh _ hok hpre _
  obtain ⟨_, _, _, fn', hfn', _, _, _, _, hval⟩ := hok
  obtain rfl : fn' = fn := Option.some.inj (hfn'.symm.trans hfn)
  obtain ⟨⟨⟨ds, gs, before, hw, hc⟩, hx⟩, hz⟩ := hpre
  refine (contract _ w.heap.size i.args ds gs before hval (DataW.Whole.of_heap (w' := w.forCall tape i) (by rfl) hw) hc (hz.weights hw) (hX _ _ (by rfl) hx) hsh).mono fun e W' ⟨v, he, hp⟩ => ?_
  subst he
  exact ChangeSpec.post_blind hp
end Go.Proofs.YtbjbgneiglopmaaGreatDoor

/- Texts that FnCompiled leans on, part 5. (Put together by wip/tools/bundle.py.) -/
import Derived.Lib.Slices
import Derived.Sort.OwnSortedInts
import Derived.Shelf.GgSortFunc.InsertionK
import Derived.Sort.LotA
import Derived.Shelf.SlSortCmp.Insertion
import Derived.Lib.Small
import Derived.Test.YtbpilecgnfnndaaCmpd1
import Derived.Test.YtbpilecgnfnndaaCmpd2
import Derived.Test.YtbpilecgnfnndaaCmpd3
import Derived.Test.YtbpilecgnfnndaaCmpd4
namespace Go.Proofs.Ytbpilecgnfnndaa
set_option linter.unusedSimpArgs false
set_option linter.unusedVariables false
open Go.ChangeShapes Go.WideShapes Go.ChangeAt Go.RowKit Go.BigFrame
theorem setRow_set5 : ∀ (fs : List Fld) (k : Nat) (f : Fld), k < fs.length → setRow (fs.flatMap Fld.cs) (k * 5) f.cs = (fs.set k f).flatMap Fld.cs
  | [], k, r, h => by simp at h
  | s :: rs, 0, r, h => by simp [setRow, Fld.cs]
  | s :: rs, k + 1, r, h => by
    have ih := setRow_set5 rs k r (by simpa using h)
    simp only [setRow, Fld.cs, List.flatMap_cons, List.set_cons_succ] at ih ⊢
    rw [show (k + 1) * 5 = k * 5 + 5 by omega]
    simpa using ih
structure RawB (xs : List Shp) : Prop where
  n : xs.length ≤ 7
  len : ∀ x ∈ xs, x.flds.length ≤ 14
  ok : ∀ x ∈ xs, ShpOk x
theorem RawB.sum {xs : List Shp} (h : RawB xs) : fldSum xs ≤ 1048576 := Nat.le_trans (fldSum_mul h.len) (by have := h.n; omega)
theorem RawB.set {xs : List Shp} (h : RawB xs) (q : Nat) {x : Shp} (h1 : x.flds.length ≤ 14) (h2 : ShpOk x) : RawB (xs.set q x) := by
  refine ⟨by simpa using h.n, fun y hy => ?_, fun y hy => ?_⟩ <;> rcases List.mem_or_eq_of_mem_set hy with h' | rfl
  · exact h.len y h'
  · exact h1
  · exact h.ok y h'
  · exact h2
theorem RawB.push {xs : List Shp} (h : RawB xs) (hn : xs.length < 7) {i : Int} (hi : W64 i) : RawB (xs ++ [⟨i, []⟩]) := by
  refine ⟨by simp; omega, fun y hy => ?_, fun y hy => ?_⟩ <;> rcases List.mem_append.1 hy with h' | h'
  · exact h.len y h'
  · simp at h'; subst h'; simp
  · exact h.ok y h'
  · simp at h'; subst h'; exact ⟨hi, by simp, fun f hf => by cases hf⟩
theorem raw_bent {ids : List Int} {i : Nat} {xs : List Shp} (h : RawGood ids i 0 xs) (hids : ∀ k ∈ ids, 1 ≤ k ∧ k ≤ 99) (hl : xs.length ≤ 3) : RawB xs := by
  refine ⟨by omega, fun x hx => by have := h.len5 hx; omega, fun x hx => ?_⟩
  have hid := h.id99 hids hx
  refine ⟨w64_of (by omega) (by omega), by have := h.len5 hx; unfold maxLen; omega, fun f hf => ?_⟩
  have hF := (h.good x hx).2 f hf
  have h1 := numOk_le hF.num
  have h2 := inB_le hF.kind
  have hr := hF.ref
  refine ⟨w64_of (by omega) (by omega), w64_of (by omega) (by omega), ?_⟩
  by_cases h8 : f.kind = 8
  · rw [if_pos h8] at hr
    simp only [hasI, List.any_eq_true, beq_iff_eq] at hr
    obtain ⟨j, hj, e⟩ := hr
    have := hids j hj
    exact w64_of (by omega) (by omega)
  · rw [if_neg h8] at hr
    exact w64_of (by omega) (by omega)
def DrawnRB (B : Nat) (w : World) (r : Ending) (w' : World) : Prop :=
  ∃ a n cap rs xs, r = .returned (.agg #[.slice a n cap]) ∧ OwnShs w' w.heap.size 40 45 (.slice a n cap) n rs xs ∧ RawB xs ∧ Up B w w'
structure Mid6b (w : World) (B : Nat) (S : Nat) (a : Option Addr) (n cap : Nat) (rs : List ShR) (xs : List Shp) (wx : World) : Prop where
  own : OwnShs wx (w.heap.size + 1) 40 45 (.slice a n cap) n rs xs
  good : RawB xs
  res : wx.heap[w.heap.size]? = some (.cells #[.slice none 0 0] 26 (0, 0))
  box : wx.heap[S]? = some (.cells #[.slice a n cap] 26 (0, 0))
  up : Up B w wx
section
variable {w : World} {B S : Nat} {a : Option Addr} {n cap : Nat} {rs : List ShR} {xs : List Shp} {wx wy : World}
theorem Mid6b.step (h : Mid6b w B S a n cap rs xs wx) (hB : B < w.heap.size) (hS : w.heap.size < S) (hc : Cur wy B) (ho : Oth B wx wy) : Mid6b w B S a n cap rs xs wy :=
  ⟨h.own.oth ho (by omega), h.good, (ho.block (box_lt h.res) (by omega)).trans h.res, (ho.block (box_lt h.box) (by omega)).trans h.box, h.up.step hc ho⟩
theorem Mid6b.below (h : Mid6b w B S a n cap rs xs wx) (hB : B < w.heap.size) (hb : Below wx.heap.size wx wy) : Mid6b w B S a n cap rs xs wy :=
  ⟨h.own.below hb (Nat.le_refl _), h.good, (hb.block _ (box_lt h.res)).trans h.res, (hb.block _ (box_lt h.box)).trans h.box, h.up.below hB hb h.up.oth.size⟩
theorem Mid6b.out {g : Nat} (h : Mid6b w B S a n cap rs xs wx) {t : TypeId} {v : Value} {L : List Value} {k sz base : Nat} (ho : wx.ownsRow base t sz v k L) (hv : v.ownBlock = some g) (ht : t ≠ 26) : g ≠ S := by
  intro e
  obtain ⟨c, hc⟩ := own_box ho hv
  rw [e, h.box] at hc
  simp at hc
  exact ht hc.2.symm
theorem Mid6b.put {g o : Nat} {u : Value} {rs' : List ShR} {xs' : List Shp} (h : Mid6b w B S a n cap rs xs wx) (hB : B < w.heap.size) (hg : w.heap.size < g) (hgS : g ≠ S) (own' : OwnShs (wx.setCell ⟨g, o, none⟩ u) (w.heap.size + 1) 40 45 (.slice a n cap) n rs' xs') (good' : RawB xs') :
    Mid6b w B S a n cap rs' xs' (wx.setCell ⟨g, o, none⟩ u) :=
  ⟨own', good', hset_other h.res (by simp; omega), hset_other h.box (by simpa using Ne.symm hgS), h.up.below hB ((Below.refl (w.heap.size + 1) _).setCell (by simp; omega) _) (by omega)⟩
theorem Mid6b.boxAt {w11 : World} (h : Mid6b w B S a n cap rs xs wx) (hg : wx.grownBy w11 (Value.slice a n cap).ownBlock) : w11.heap[S]? = some (.cells #[.slice a n cap] 26 (0, 0)) :=
  (hg.block S (box_lt h.box) (fun e => h.out h.own.outer e.symm (by decide) rfl)).trans h.box
theorem Mid6b.push {w11 : World} {g' capn : Nat} {i : Int} (h : Mid6b w B S a n cap rs xs wx) (hB : B < w.heap.size) (hSl : w.heap.size < S) (hn : n < 7) (hi : W64 i) (hown : w11.ownsRow (w.heap.size + 1) 40 2 (.slice (some ⟨g', 0, none⟩) (n + 1) capn) (n + 1) (rs.flatMap ShR.cs ++ [.int .i64 i, .slice none 0 0]))
    (hg : wx.grownBy w11 (Value.slice a n cap).ownBlock) :
    Mid6b w B S (some ⟨g', 0, none⟩) (n + 1) capn (rs ++ [⟨i, none, 0, 0⟩]) (xs ++ [⟨i, []⟩]) (w11.setCell ⟨S, 0, none⟩ (.slice (some ⟨g', 0, none⟩) (n + 1) capn)) := by
  have hS := h.boxAt hg
  have hz := h.up.oth.size
  have hb : Below (w.heap.size + 1) wx w11 := below_grown (Below.refl _ _) hg (fun b e => (h.own.outer.lt b e).1) (by have := box_lt h.res; omega)
  have hSR : S ≠ w.heap.size := by omega
  refine ⟨OwnShs.setBox (h.own.push (r := ⟨i, none, 0, 0⟩) (x := ⟨i, []⟩) (by decide) ⟨rfl, rfl, World.ownsRow_nil _ _ _ _⟩ (fun _ _ _ _ _ e => by simp [Value.ownBlock] at e) hown hg) hS (by decide) (by decide) _, h.good.push (by rw [h.own.lenx]; exact hn) hi, hset_other ((hb.block _ (by omega)).trans h.res) (by simpa using Ne.symm hSR), ?_, ?_⟩
  · apply hset_eq (hset_set hS); simp only [List.setIfInBounds_toArray, List.set_cons_zero]
  · exact h.up.below hB (hb.setCell (by simp; omega) _) (by omega)
end
def msr6 (S : Nat) (w : World) : Nat := match w.cell? ⟨S, 0, none⟩ with | some (.slice _ n _) => 8 - n | _ => 0
theorem Mid6b.msr {w : World} {B S : Nat} {a : Option Addr} {n cap : Nat} {rs : List ShR} {xs : List Shp} {wx : World} (h : Mid6b w B S a n cap rs xs wx) : msr6 S wx = 8 - n := by
  have k : wx.cell? ⟨S, 0, none⟩ = some (.slice a n cap) := box_cells h.box 0
  unfold msr6; rw [k]
section
variable {w : World} {B S : Nat} {a : Option Addr} {n cap : Nat} {rs : List ShR} {xs : List Shp} {wx wy : World}
theorem Mid6b.at {k : Nat} (h : Mid6b w B S a n cap rs xs wx) (hk : k < n) : ∃ g, a = some ⟨g, 0, none⟩ ∧ w.heap.size + 1 ≤ g ∧ g < wx.heap.size ∧ g ≠ S ∧ ∃ (rid : Int) (ra : Option Addr) (rn rcap : Nat) (x0 : Shp), rs[k]? = some ⟨rid, ra, rn, rcap⟩ ∧ xs[k]? = some x0 ∧ x0 ∈ xs ∧ rn = x0.flds.length ∧ wx.ownsRow (w.heap.size + 1) 45 5 (.slice ra rn rcap) rn (x0.flds.flatMap Fld.cs) ∧ wx.cell? ⟨g, k * 2, none⟩ = some (.int .i64 rid) ∧ wx.cell? ⟨g, k * 2 + 1, none⟩ = some (.slice ra rn rcap) ∧ ∀ j, wx.frozen? ⟨g, j, none⟩ = false := by
  obtain ⟨g, cap0, e0, hg0, hgl⟩ := h.own.outer.form (by omega)
  simp only [Value.slice.injEq, true_and] at e0
  obtain ⟨rfl, rfl⟩ := e0
  obtain ⟨⟨rid, ra, rn, rcap⟩, hr, hrm⟩ := at_lt (xs := rs) (k := k) (by rw [h.own.len]; exact hk)
  obtain ⟨x0, hx, hxm⟩ := at_lt (xs := xs) (k := k) (by rw [h.own.lenx]; exact hk)
  obtain ⟨hrid, hrn, hrow⟩ := h.own.each k _ x0 hr hx
  exact ⟨g, rfl, hg0, hgl, h.out h.own.outer rfl (by decide), rid, ra, rn, rcap, x0, hr, hx, hxm, hrn, hrow, own_at h.own.outer (by rw [show k * 2 = k * 2 + 0 by rfl, flatMap_at shR_len rs k 0 _ hr (by omega)]; rfl), own_at h.own.outer (by rw [flatMap_at shR_len rs k 1 _ hr (by omega)]; rfl), h.own.outer.frozenAt⟩
structure MidF (w : World) (B S : Nat) (a : Option Addr) (n cap : Nat) (rs : List ShR) (xs : List Shp) (F : Nat) (f : Fld) (wx : World) : Prop where
  mid : Mid6b w B S a n cap rs xs wx
  fbox : wx.heap[F]? = some (.cells #[.int .i64 f.number, .int .i64 f.kind, .bool f.rep, .bool f.packed, .int .i64 f.msg] 45 (0, 0))
  lt : w.heap.size + 1 ≤ F
  ne : F ≠ S
  rows : ∀ r ∈ rs, ∀ g, (Value.slice r.a r.n r.cap).ownBlock = some g → g ≠ F
  outer : ∀ g, (Value.slice a n cap).ownBlock = some g → g ≠ F
variable {F : Nat} {f f' : Fld}
theorem MidF.mk' (h : Mid6b w B S a n cap rs xs wx) (hB : B < w.heap.size) (hS : w.heap.size < S) (f : Fld) : MidF w B S a n cap rs xs wx.heap.size f (wx.alloc (.cells #[.int .i64 f.number, .int .i64 f.kind, .bool f.rep, .bool f.packed, .int .i64 f.msg] 45)) := by
  have hz := h.up.oth.size
  have hSl := box_lt h.box
  refine ⟨h.below hB ((Below.refl _ _).alloc (Nat.le_refl _) _), hset_new rfl, by omega, by omega, fun r hr g e => ?_, fun g e => ?_⟩
  · obtain ⟨i, hi, hie⟩ := List.getElem_of_mem hr
    have hri : rs[i]? = some r := by rw [List.getElem?_eq_getElem hi, hie]
    obtain ⟨x, hx, -⟩ := at_lt (xs := xs) (k := i) (by rw [h.own.lenx, ← h.own.len]; exact hi)
    have := ((h.own.each i r x hri hx).2.2.lt g e).2
    omega
  · have := (h.own.outer.lt g e).2
    omega
theorem MidF.step (h : MidF w B S a n cap rs xs F f wx) (hB : B < w.heap.size) (hS : w.heap.size < S) (hc : Cur wy B) (ho : Oth B wx wy) : MidF w B S a n cap rs xs F f wy :=
  ⟨h.mid.step hB hS hc ho, (ho.block (box_lt h.fbox) (by have := h.lt; omega)).trans h.fbox, h.lt, h.ne, h.rows, h.outer⟩
theorem MidF.below (h : MidF w B S a n cap rs xs F f wx) (hB : B < w.heap.size) (hb : Below wx.heap.size wx wy) : MidF w B S a n cap rs xs F f wy :=
  ⟨h.mid.below hB hb, (hb.block _ (box_lt h.fbox)).trans h.fbox, h.lt, h.ne, h.rows, h.outer⟩
theorem MidF.set (h : MidF w B S a n cap rs xs F f wx) (hB : B < w.heap.size) (o : Nat) (u : Value)
    (hf : (#[.int .i64 f.number, .int .i64 f.kind, .bool f.rep, .bool f.packed, .int .i64 f.msg] : Array Value).setIfInBounds o u = #[.int .i64 f'.number, .int .i64 f'.kind, .bool f'.rep, .bool f'.packed, .int .i64 f'.msg]) : MidF w B S a n cap rs xs F f' (wx.setCell ⟨F, o, none⟩ u) := by
  have hg : wx.grownBy (wx.setCell ⟨F, o, none⟩ u) (some F) := (Oth.refl F wx).setCell (o := o) u
  have hlt := h.lt
  have hne := h.ne
  refine ⟨⟨h.mid.own.apartCell h.rows h.outer hg, h.mid.good, hset_other h.mid.res (by simp; omega), hset_other h.mid.box (by simpa using Ne.symm hne), h.mid.up.below hB ((Below.refl (w.heap.size + 1) _).setCell (by simp; omega) _) (by omega)⟩, ?_, h.lt, h.ne, h.rows, h.outer⟩
  apply hset_eq (hset_set h.fbox)
  rw [hf]
theorem MidF.cells (h : MidF w B S a n cap rs xs F f wx) : wx.cell? ⟨F, 0, none⟩ = some (.int .i64 f.number) ∧ wx.cell? ⟨F, 1, none⟩ = some (.int .i64 f.kind) ∧ wx.cell? ⟨F, 2, none⟩ = some (.bool f.rep) ∧ wx.cell? ⟨F, 3, none⟩ = some (.bool f.packed) ∧ wx.cell? ⟨F, 4, none⟩ = some (.int .i64 f.msg) ∧ ∀ j, wx.frozen? ⟨F, j, none⟩ = false :=
  ⟨box_cells h.fbox 0, box_cells h.fbox 1, box_cells h.fbox 2, box_cells h.fbox 3, box_cells h.fbox 4, box_frozen h.fbox⟩
end
set_option maxRecDepth 100000 in
set_option maxHeartbeats 8000000 in
theorem l6Bent_any (B : Nat) (w : World) (hc : Cur w B) : Calls Try.prog 30 #[.pointer (some ⟨B, 0, none⟩)] w (DrawnRB B w) := by
  have hBl := hc.lt
  obtain ⟨iS, hiS, hs0, hs1, hs2⟩ := info_parts info_RawMsg6
  obtain ⟨iF, hiF, hf0, hf1, hf2⟩ := info_parts info_RawField6
  go_enter Try.func30, Try.ntmps30
  go_wp2_with fail
  refine (l6Right_any B _ (hc.below (by ((repeat (first | (with_reducible exact Below.refl _ _) | (with_reducible assumption) | (with_reducible refine Below.alloc ?_ ?_ _) | (with_reducible refine Below.setCell ?_ ?_ _) | (with_reducible refine Below.drew ?_) | (with_reducible refine below_setRow ?_ ?_ _) | (refine Below.trans ?_ (Below.mono (by assumption) ?_)))); all_goals (first | omega | (simp; done) | (simp; omega)))))).mono ?_
  rintro r w1 ⟨a, n, cap, rs, xs, i, rfl, ho, h1, h3, hg, hu⟩
  have hz1 := hu.oth.size
  simp only [World.size_alloc] at hz1
  have hxl := ho.lenx
  have hM1 : Mid6b w B w1.heap.size a n cap rs xs (w1.alloc (.cells #[.slice a n cap] 26)) :=
    ⟨(ho.le (by simp)).alloc _, raw_bent hg (idL_ok n) (by omega), hset_alloc ((hu.oth.block (b := w.heap.size) (by simp) (by omega)).trans (hset_new (o := .cells #[.slice none 0 0] 26) rfl)), hset_new rfl, (((Up.refl hc).alloc hBl _).step hu.cur hu.oth).alloc hBl _⟩
  have H5 : ∀ x ∈ xs, x.flds.length ≤ 5 := fun x hx => hg.len5 hx
  have HM1 := Lib.hid hM1; clear hM1 ho hu hxl hg
  go_wp2_with fail
  refine (l1Below_any B n _ HM1.out.up.cur (by omega) (by omega)).mono ?_
  rintro r w2 ⟨x, rfl, hx0, hx1, hc2, ho2⟩
  obtain ⟨k, rfl⟩ := Int.eq_ofNat_of_zero_le hx0
  have hk : k < n := by omega
  have hM2 := HM1.out.step hBl (by omega) hc2 ho2
  go_wp2_with fail
  refine (l1Once_any B 5 _ hc2 (by omega) (by omega)).mono ?_
  rintro r w3 ⟨b1, rfl, hc3, ho3⟩
  have hM3 := hM2.step hBl (by omega) hc3 ho3
  obtain ⟨S, hS⟩ : ∃ S, w1.heap.size = S := ⟨_, rfl⟩
  rw [hS] at hM3
  have hM := hM3; clear hM3 hM2 hc2 ho2 hc3 ho3 HM1
  have hSl : w.heap.size < S := by omega
  simp only [hS]
  clear hS hz1
  have hSB : S ≠ B := by omega
  have fin : ∀ (W : World) (a : Option Addr) (n cap : Nat) (rs : List ShR) (xs : List Shp), Mid6b w B S a n cap rs xs W → ∀ (tm : Array Value), tm.getD 2 undef = .pointer (some ⟨w.heap.size, 0, none⟩) → bodyPost Try.prog Try.f30 (DrawnRB B w) .ret ⟨tm, []⟩ (W.setCell ⟨w.heap.size, 0, none⟩ (.slice a n cap)) := by
    intro W a n cap rs xs h tm t1
    refine bodyPost_ret (results_cell Try.results30 t1 (run_loadVar_mid _ w.heap.size 0 26 [.slice a n cap] _ (range_of_box (t := 26) ?_) Try.underlying26 rfl (by kernel_rfl))) rfl ⟨_, _, _, _, _, rfl, (h.own.set (by simp) _).le (by omega), h.good, h.up.below hBl ((Below.refl w.heap.size _).setCell (by simp) _) (Nat.le_refl _)⟩
    apply hset_eq (hset_set h.res); simp only [List.setIfInBounds_toArray, List.set_cons_zero]
  have seen : ∀ (W : World) (a : Option Addr) (n cap : Nat) (rs : List ShR) (xs : List Shp), Mid6b w B S a n cap rs xs W → W.cell? ⟨S, 0, none⟩ = some (.slice a n cap) ∧ W.cell? ⟨w.heap.size, 0, none⟩ = some (.slice none 0 0) ∧ (∀ j, W.frozen? ⟨w.heap.size, j, none⟩ = false) ∧ (∀ j, W.frozen? ⟨S, j, none⟩ = false) := fun W a n cap rs xs h => ⟨box_cells h.box 0, box_cells h.res 0, box_frozen h.res, box_frozen h.box⟩
  have hkn : (k : Int) < (n : Int) := by omega
  cases b1
  · obtain ⟨g, rfl, hg0, hgl, hgS, rid, ra, rn, rcap, x0, hr, hx, hxm, hrn, hrow, c0, c1, hfz⟩ := hM.at hk
    have hgB : g ≠ B := by omega
    have hx14 : x0.flds.length ≤ 14 := hM.good.len x0 hxm
    have HXO := Lib.hid (hM.good.ok x0 hxm)
    have HR := Lib.hid hr; have HX := Lib.hid hx; have HW := Lib.hid hrow; clear hr hx hrow hxm
    have HN := Lib.hid hrn; clear hrn
    obtain ⟨kS, kR, fR, fS⟩ := seen _ _ _ _ _ _ hM
    have HM := Lib.hid hM; clear hM
    have hrn0 : rn = 0 ∨ 0 < rn := by omega
    rcases hrn0 with rfl | h0
    · go_wp2_with fail
      exact fin _ _ _ _ _ _ HM.out _ rfl
    · obtain ⟨rb, cap1, e1, hrb, hrbl⟩ := HW.out.form h0
      simp only [Value.slice.injEq, true_and] at e1
      obtain ⟨rfl, rfl⟩ := e1
      have hn0 : (0 : Int) < (rn : Int) := by omega
      go_wp2_with fail
      refine (l1Once_any B 2 _ HM.out.up.cur (by omega) (by omega)).mono ?_
      rintro r w4 ⟨b2, rfl, hc4, ho4⟩
      have hM4 := HM.out.step hBl hSl hc4 ho4
      obtain ⟨kS', kR', fR', fS'⟩ := seen _ _ _ _ _ _ hM4
      have HM4 := Lib.hid hM4; clear hM4 kS kR fR fS c0 c1 hfz HW
      cases b2
      · go_wp2_with fail
        exact fin _ _ _ _ _ _ HM4.out _ rfl
      · obtain ⟨g_, eg, hg0_, hgl_, hgS_, rid_, ra_, rn_, rcap_, x0_, hr_, hx_, hxm_, hrn_, hrow, c0, c1, hfz⟩ := HM4.out.at hk
        obtain rfl : g = g_ := by simpa using eg
        rw [HR.out] at hr_; rw [HX.out] at hx_
        simp only [Option.some.injEq, ShR.mk.injEq] at hr_ hx_
        obtain ⟨rfl, rfl, rfl, rfl⟩ := hr_
        obtain rfl := hx_
        clear eg hg0_ hgl_ hgS_ hxm_ hrn_ hrow hfz
        have hrn256 : rn ≤ 256 := by have := HN.out; omega
        go_wp2_with fail
        refine (l1Below_any B rn _ HM4.out.up.cur (by omega) (by omega)).mono ?_
        rintro r w5 ⟨j5, rfl, hj50, hj51, hc5, ho5⟩
        obtain ⟨j, rfl⟩ := Int.eq_ofNat_of_zero_le hj50
        have hj : j < rn := by omega
        have hM5 := HM4.out.step hBl hSl hc5 ho5
        have HM5 := Lib.hid hM5; clear hM5 c0 c1 kS' kR' fR' fS' HM4 HM hc4 ho4 hc5 ho5
        obtain ⟨g_, eg, hg0_, hgl_, hgS_, rid_, ra_, rn_, rcap_, x0_, hr_, hx_, hxm_, hrn_, hrow, c0, c1, hfz⟩ := HM5.out.at hk
        obtain rfl : g = g_ := by simpa using eg
        rw [HR.out] at hr_; rw [HX.out] at hx_
        simp only [Option.some.injEq, ShR.mk.injEq] at hr_ hx_
        obtain ⟨rfl, rfl, rfl, rfl⟩ := hr_
        obtain rfl := hx_
        clear eg hg0_ hgl_ hgS_ hxm_ hrn_ hfz
        have HW := Lib.hid hrow; clear hrow
        obtain ⟨kS, kR, fR, fS⟩ := seen _ _ _ _ _ _ HM5.out
        have hjn : (j : Int) < (rn : Int) := by omega
        obtain ⟨f0, hf0', hfm⟩ := at_lt (xs := x0.flds) (k := j) (by have := HN.out; omega)
        have HF0 := Lib.hid hf0'; have HFO := Lib.hid (HXO.out.flds f0 hfm); clear hf0' hfm
        obtain ⟨b_, off_, e_, hbl_, d0, d1, d2, d3, d4⟩ := Flds.at (flds_of_own HW.out HN.out.symm) HF0.out
        simp only [Option.some.injEq, Addr.mk.injEq, true_and, and_true] at e_
        obtain ⟨rfl, rfl⟩ := e_
        simp only [Nat.zero_add] at d0 d1 d2 d3 d4
        obtain ⟨F, hFe⟩ : ∃ F, w5.heap.size = F := ⟨_, rfl⟩
        have hF5 := MidF.mk' HM5.out hBl hSl f0
        rw [hFe] at hF5
        have HF5 := Lib.hid hF5; clear hF5
        go_upto_region 18 with fail
        go_cut [7, 103] from 102 to 140 (fun s u wx => s = .pointer (some ⟨F, 0, none⟩) ∧ (∃ y : Int, u = .int .i64 y ∧ 0 ≤ y ∧ y ≤ 5) ∧ MidF w B S (some ⟨g, 0, none⟩) n cap rs xs F f0 wx)
        case first =>
          go_wp2_with fail
          refine (l1Below_any B 6 _ HF5.out.mid.up.cur (by omega) (by omega)).mono ?_
          rintro r w6 ⟨y, rfl, hy0, hy1, hc6, ho6⟩
          have hF6 := HF5.out.step hBl hSl hc6 ho6
          go_wp2_with fail
          go_meet
          case rel => exact ⟨rfl, ⟨y, rfl, hy0, by omega⟩, hF6⟩
        case rest =>
        obtain ⟨hFp, ⟨y, rfl, hy0, hy1⟩, hF6⟩ := hcut
        subst hFp
        have HF := Lib.hid hF6; clear hF6 HF5 hFe d0 d1 d2 d3 d4 kS kR fR fS c0 c1 HW hbl_ HM5
        obtain ⟨w6, hw6⟩ : ∃ w6, w6 = wc := ⟨_, rfl⟩
        subst hw6
        go_step
        go_cut [7] from 102 to 140 (fun s wx => s = .pointer (some ⟨F, 0, none⟩) ∧ ∃ f' : Fld, f'.ok ∧ MidF w B S (some ⟨g, 0, none⟩) n cap rs xs F f' wx)
        case first =>
          obtain ⟨q0, q1, q2, q3, q4, fq⟩ := HF.out.cells
          rcases (show y = 0 ∨ y = 1 ∨ y = 2 ∨ y = 3 ∨ y = 4 ∨ 5 ≤ y by omega) with rfl | rfl | rfl | rfl | rfl | h5
          · go_wp2_with fail
            refine (l4Number_w B _ HF.out.mid.up.cur).mono ?_
            rintro r v1 ⟨i1, rfl, hi1, hd1, hp1⟩
            have hF1 := HF.out.step hBl hSl hd1 hp1
            obtain ⟨q0', q1', q2', q3', q4', fq'⟩ := hF1.cells
            have HFs := Lib.hid (hF1.set (f' := ⟨i1, f0.kind, f0.rep, f0.packed, f0.msg⟩) hBl 0 (.int .i64 i1) rfl)
            go_wp2_with fail
            go_meet
            case rel => exact ⟨rfl, ⟨i1, f0.kind, f0.rep, f0.packed, f0.msg⟩, ⟨hi1, HFO.out.kind, HFO.out.msg⟩, HFs.out⟩
          · go_wp2_with fail
            refine (l1Below_any B 11 _ HF.out.mid.up.cur (by omega) (by omega)).mono ?_
            rintro r v1 ⟨i1, rfl, hi10, hi11, hd1, hp1⟩
            have hF1 := HF.out.step hBl hSl hd1 hp1
            obtain ⟨q0', q1', q2', q3', q4', fq'⟩ := hF1.cells
            have hw1 : IntKind.i64.wrap (i1 - 1) = i1 - 1 := by rw [IntKind.wrap_i64]; omega
            have HFs := Lib.hid (hF1.set (f' := ⟨f0.number, i1 - 1, f0.rep, f0.packed, f0.msg⟩) hBl 1 (.int .i64 (i1 - 1)) rfl)
            go_wp2_with fail
            go_meet
            case rel => exact ⟨rfl, ⟨f0.number, i1 - 1, f0.rep, f0.packed, f0.msg⟩, ⟨HFO.out.number, w64_of (u := i1 - 1) (by omega) (by omega), HFO.out.msg⟩, HFs.out⟩
          · have HFs := Lib.hid (HF.out.set (f' := ⟨f0.number, f0.kind, f0.rep, !f0.packed, f0.msg⟩) hBl 3 (.bool (!f0.packed)) rfl)
            go_wp2_with fail
            go_meet
            case rel => exact ⟨rfl, ⟨f0.number, f0.kind, f0.rep, !f0.packed, f0.msg⟩, ⟨HFO.out.number, HFO.out.kind, HFO.out.msg⟩, HFs.out⟩
          · have HFs := Lib.hid (HF.out.set (f' := ⟨f0.number, f0.kind, !f0.rep, f0.packed, f0.msg⟩) hBl 2 (.bool (!f0.rep)) rfl)
            go_wp2_with fail
            go_meet
            case rel => exact ⟨rfl, ⟨f0.number, f0.kind, !f0.rep, f0.packed, f0.msg⟩, ⟨HFO.out.number, HFO.out.kind, HFO.out.msg⟩, HFs.out⟩
          · go_wp2_with fail
            have hFa := HF.out.below (wy := w6.alloc (.cells #[.int .i64 0, .int .i64 5, .int .i64 1, .int .i64 99, .int .i64 44, .int .i64 (-1)] 3)) hBl ((Below.refl _ _).alloc (Nat.le_refl _) _)
            refine (l1PickInt_in B w6.heap.size 6 [0, 5, 1, 99, 44, -1] 3 _ hFa.mid.up.cur (by have := box_lt HF.out.mid.box; have := HF.out.mid.up.oth.size; omega) (hset_new rfl) (by decide) (by decide)).mono ?_
            rintro r v1 ⟨i1, rfl, him, hd1, hp1⟩
            have hi1 : W64 i1 := by
              simp only [List.mem_cons, List.not_mem_nil, or_false] at him
              rcases him with rfl | rfl | rfl | rfl | rfl | rfl <;> exact w64_lim (by omega) (by omega)
            have hF1 := hFa.step hBl hSl hd1 hp1
            obtain ⟨q0', q1', q2', q3', q4', fq'⟩ := hF1.cells
            have HFs := Lib.hid (hF1.set (f' := ⟨f0.number, f0.kind, f0.rep, f0.packed, i1⟩) hBl 4 (.int .i64 i1) rfl)
            go_wp2_with fail
            go_meet
            case rel => exact ⟨rfl, ⟨f0.number, f0.kind, f0.rep, f0.packed, i1⟩, ⟨HFO.out.number, HFO.out.kind, hi1⟩, HFs.out⟩
          · obtain ⟨g_, eg, hg0_, hgl_, hgS_, rid_, ra_, rn_, rcap_, x0_, hr_, hx_, hxm_, hrn_, hrow, c0, c1, hfz⟩ := HF.out.mid.at hk
            obtain rfl : g = g_ := by simpa using eg
            rw [HR.out] at hr_; rw [HX.out] at hx_
            simp only [Option.some.injEq, ShR.mk.injEq] at hr_ hx_
            obtain ⟨rfl, rfl, rfl, rfl⟩ := hr_
            obtain rfl := hx_
            clear eg hg0_ hgl_ hgS_ hxm_ hrn_ hfz
            obtain ⟨f1, hf1', hfm1⟩ := at_lt (xs := x0.flds) (k := 0) (by have := HN.out; omega)
            have HFO1 := Lib.hid (HXO.out.flds f1 hfm1)
            obtain ⟨b_, off_, e_, hbl_, d0, d1, d2, d3, d4⟩ := Flds.at (flds_of_own hrow HN.out.symm) hf1'
            simp only [Option.some.injEq, Addr.mk.injEq, true_and, and_true] at e_
            obtain ⟨rfl, rfl⟩ := e_
            simp only [Nat.zero_add, Nat.zero_mul] at d0 d1 d2 d3 d4
            clear hrow hf1' hfm1
            obtain ⟨kS, kR, fR, fS⟩ := seen _ _ _ _ _ _ HF.out.mid
            have HFs := Lib.hid (((((HF.out.set (f' := ⟨f1.number, f0.kind, f0.rep, f0.packed, f0.msg⟩) hBl 0 (.int .i64 f1.number) rfl).set (f' := ⟨f1.number, f1.kind, f0.rep, f0.packed, f0.msg⟩) hBl 1 (.int .i64 f1.kind) rfl).set (f' := ⟨f1.number, f1.kind, f1.rep, f0.packed, f0.msg⟩) hBl 2 (.bool f1.rep) rfl).set (f' := ⟨f1.number, f1.kind, f1.rep, f1.packed, f0.msg⟩) hBl 3 (.bool f1.packed) rfl).set (f' := f1) hBl 4 (.int .i64 f1.msg) rfl)
            have y0 : (y == 0) = false := by simp; omega
            have y1 : (y == 1) = false := by simp; omega
            have y2 : (y == 2) = false := by simp; omega
            have y3 : (y == 3) = false := by simp; omega
            have y4 : (y == 4) = false := by simp; omega
            go_wp2_with fail
            go_meet
            case rel => exact ⟨rfl, f1, HFO1.out, HFs.out⟩
        case rest =>
          obtain ⟨rfl, f', hfo, hm⟩ := hcut
          have HFc := Lib.hid hm; have HFk := Lib.hid hfo; clear hm hfo HF HFO HF0
          obtain ⟨q0, q1, q2, q3, q4, fq⟩ := HFc.out.cells
          obtain ⟨g_, eg, hg0_, hgl_, hgS_, rid_, ra_, rn_, rcap_, x0_, hr_, hx_, hxm_, hrn_, hrow, c0, c1, hfz⟩ := HFc.out.mid.at hk
          obtain rfl : g = g_ := by simpa using eg
          rw [HR.out] at hr_; rw [HX.out] at hx_
          simp only [Option.some.injEq, ShR.mk.injEq] at hr_ hx_
          obtain ⟨rfl, rfl, rfl, rfl⟩ := hr_
          obtain rfl := hx_
          clear eg hg0_ hgl_ hgS_ hxm_ hrn_ hfz
          obtain ⟨kS, kR, fR, fS⟩ := seen _ _ _ _ _ _ HFc.out.mid
          have HW := Lib.hid hrow; clear hrow
          have hLr : ∀ i, i < 5 → ∃ u, wc.cell? ⟨rb, j * 5 + i, none⟩ = some u := fun i hi => by
            obtain ⟨u, hu⟩ := owns_some HW.out (j * 5 + i) (by have := HN.out; omega)
            exact ⟨u, hu⟩
          obtain ⟨u0, d0⟩ := hLr 0 (by omega); obtain ⟨u1, d1⟩ := hLr 1 (by omega); obtain ⟨u2, d2⟩ := hLr 2 (by omega); obtain ⟨u3, d3⟩ := hLr 3 (by omega); obtain ⟨u4, d4⟩ := hLr 4 (by omega)
          simp only [Nat.add_zero] at d0
          clear hLr
          have hfr : ∀ i, wc.frozen? ⟨rb, i, none⟩ = false := HW.out.frozenAt
          go_upto_region 30 with fail
          refine wp_region_till (Cells [(⟨F, 0, none⟩, .int .i64 f'.number), (⟨F, 1, none⟩, .int .i64 f'.kind), (⟨F, 2, none⟩, .bool f'.rep), (⟨F, 3, none⟩, .bool f'.packed), (⟨F, 4, none⟩, .int .i64 f'.msg), (⟨S, 0, none⟩, .slice (some ⟨g, 0, none⟩) n cap), (⟨g, k * 2 + 1, none⟩, .slice (some ⟨rb, 0, none⟩) rn rcap)]) (fun i => decide (9 ≤ i)) (by kernel_rfl) ?_
          have hS : Cells [(⟨F, 0, none⟩, .int .i64 f'.number), (⟨F, 1, none⟩, .int .i64 f'.kind), (⟨F, 2, none⟩, .bool f'.rep), (⟨F, 3, none⟩, .bool f'.packed), (⟨F, 4, none⟩, .int .i64 f'.msg), (⟨S, 0, none⟩, .slice (some ⟨g, 0, none⟩) n cap), (⟨g, k * 2 + 1, none⟩, .slice (some ⟨rb, 0, none⟩) rn rcap)] wc.drew := cells_mk q0 (cells_mk q1 (cells_mk q2 (cells_mk q3 (cells_mk q4 (cells_mk kS (cells_mk c1 (cells_no _)))))))
          refine wpTill_take (i := 0) (v := ?v0_73) rfl (by kernel_rfl) (by kernel_rfl) (by kernel_rfl) (by kernel_rfl) (fun _ _ _ h => h) (Or.inl ⟨by rfl, ?y0_73⟩) hS ?r0_73
          case y0_73 => (intro wq hq; (try simp only [cells_cons, cells_nil, and_true] at hq); first | (go_simp; done) | (go_simp; with_reducible rfl) | (obtain ⟨hq1, hq2⟩ := hq; go_simp; with_reducible rfl))
          try simp only [List.getElem_toArray, List.getElem_cons_succ, List.getElem_cons_zero, Act.put, List.setIfInBounds_toArray, List.set_cons_zero, List.set_cons_succ]
          refine wpTill_take (i := 1) (v := ?v1_74) rfl (by kernel_rfl) (by kernel_rfl) (by kernel_rfl) (by kernel_rfl) (fun _ _ _ h => h) (Or.inl ⟨by rfl, ?y1_74⟩) hS ?r1_74
          case y1_74 => (intro wq hq; (try simp only [cells_cons, cells_nil, and_true] at hq); first | (go_simp; done) | (go_simp; with_reducible rfl) | (obtain ⟨hq1, hq2⟩ := hq; go_simp; with_reducible rfl))
          try simp only [List.getElem_toArray, List.getElem_cons_succ, List.getElem_cons_zero, Act.put, List.setIfInBounds_toArray, List.set_cons_zero, List.set_cons_succ]
          refine wpTill_take (i := 2) (v := ?v2_75) rfl (by kernel_rfl) (by kernel_rfl) (by kernel_rfl) (by kernel_rfl) (fun _ _ _ h => h) (Or.inl ⟨by rfl, ?y2_75⟩) hS ?r2_75
          case y2_75 => (intro wq hq; (try simp only [cells_cons, cells_nil, and_true] at hq); first | (go_simp; done) | (go_simp; with_reducible rfl) | (obtain ⟨hq1, hq2⟩ := hq; go_simp; with_reducible rfl))
          try simp only [List.getElem_toArray, List.getElem_cons_succ, List.getElem_cons_zero, Act.put, List.setIfInBounds_toArray, List.set_cons_zero, List.set_cons_succ]
          refine wpTill_take (i := 3) (v := ?v3_76) rfl (by kernel_rfl) (by kernel_rfl) (by kernel_rfl) (by kernel_rfl) (fun _ _ _ h => h) (Or.inl ⟨by rfl, ?y3_76⟩) hS ?r3_76
          case y3_76 => (intro wq hq; (try simp only [cells_cons, cells_nil, and_true] at hq); first | (go_simp; done) | (go_simp; with_reducible rfl) | (obtain ⟨hq1, hq2⟩ := hq; go_simp; with_reducible rfl))
          try simp only [List.getElem_toArray, List.getElem_cons_succ, List.getElem_cons_zero, Act.put, List.setIfInBounds_toArray, List.set_cons_zero, List.set_cons_succ]
          refine wpTill_take (i := 4) (v := ?v4_77) rfl (by kernel_rfl) (by kernel_rfl) (by kernel_rfl) (by kernel_rfl) (fun _ _ _ h => h) (Or.inl ⟨by rfl, ?y4_77⟩) hS ?r4_77
          case y4_77 => (intro wq hq; (try simp only [cells_cons, cells_nil, and_true] at hq); first | (go_simp; done) | (go_simp; with_reducible rfl) | (obtain ⟨hq1, hq2⟩ := hq; go_simp; with_reducible rfl))
          try simp only [List.getElem_toArray, List.getElem_cons_succ, List.getElem_cons_zero, Act.put, List.setIfInBounds_toArray, List.set_cons_zero, List.set_cons_succ]
          refine wpTill_take (i := 5) (v := ?v5_78) rfl (by kernel_rfl) (by kernel_rfl) (by kernel_rfl) (by kernel_rfl) (fun _ _ _ h => h) (Or.inl ⟨by rfl, ?y5_78⟩) hS ?r5_78
          case y5_78 => (intro wq hq; (try simp only [cells_cons, cells_nil, and_true] at hq); first | (go_simp; done) | (go_simp; with_reducible rfl) | (obtain ⟨hq1, hq2⟩ := hq; go_simp; with_reducible rfl))
          try simp only [List.getElem_toArray, List.getElem_cons_succ, List.getElem_cons_zero, Act.put, List.setIfInBounds_toArray, List.set_cons_zero, List.set_cons_succ]
          refine wpTill_take (i := 6) (v := ?v6_79) rfl (by kernel_rfl) (by kernel_rfl) (by kernel_rfl) (by kernel_rfl) (fun _ _ _ h => h) (Or.inl ⟨by rfl, ?y6_79⟩) hS ?r6_79
          case y6_79 => (intro wq hq; (try simp only [cells_cons, cells_nil, and_true] at hq); first | (go_simp; done) | (go_simp; with_reducible rfl) | (obtain ⟨hq1, hq2⟩ := hq; go_simp; with_reducible rfl))
          try simp only [List.getElem_toArray, List.getElem_cons_succ, List.getElem_cons_zero, Act.put, List.setIfInBounds_toArray, List.set_cons_zero, List.set_cons_succ]
          refine' wpTill_take (i := 7) (oi := _) (v := .agg #[.int .i64 f'.number, .int .i64 f'.kind, .bool f'.rep, .bool f'.packed, .int .i64 f'.msg]) rfl (by kernel_rfl) (by kernel_rfl) (by kernel_rfl) (by kernel_rfl) (fun _ _ _ h => h) (yieldsIf_load_mid (by rfl) _ _ rfl _ _ rfl [.int .i64 f'.number, .int .i64 f'.kind, .bool f'.rep, .bool f'.packed, .int .i64 f'.msg] _ (fun wq hq => range_fiveA hq) Try.underlying45 rfl (by kernel_rfl)) hS ?_
          try simp only [List.getElem_toArray, List.getElem_cons_succ, List.getElem_cons_zero, Act.put, List.setIfInBounds_toArray, List.set_cons_zero, List.set_cons_succ]
          refine wpTill_take (i := 8) (v := ?v8_80) rfl (by kernel_rfl) (by kernel_rfl) (by kernel_rfl) (by kernel_rfl) (fun _ _ _ h => h) (Or.inl ⟨by rfl, ?y8_80⟩) hS ?r8_80
          case y8_80 => (intro wq hq; (try simp only [cells_cons, cells_nil, and_true] at hq); first | (go_simp; done) | (go_simp; with_reducible rfl) | (obtain ⟨hq1, hq2⟩ := hq; go_simp; with_reducible rfl))
          try simp only [List.getElem_toArray, List.getElem_cons_succ, List.getElem_cons_zero, Act.put, List.setIfInBounds_toArray, List.set_cons_zero, List.set_cons_succ]
          refine wpTill_op (i := 9) (by kernel_rfl) rfl (fun K hK => ?_)
          go_simp
          refine hK.out _ _ (fun e => by cases e) ?_
          clear hK K
          refine wpTill_done (by kernel_rfl) ?_ _
          have hst := owns_store_fld HW.out j f'
          rw [setRow_set5 x0.flds j f' (by rw [← HN.out]; exact hj)] at hst
          have hgr : wc.grownBy (((((wc.setCell ⟨rb, j * 5, none⟩ (.int .i64 f'.number)).setCell ⟨rb, j * 5 + 1, none⟩ (.int .i64 f'.kind)).setCell ⟨rb, j * 5 + 2, none⟩ (.bool f'.rep)).setCell ⟨rb, j * 5 + 3, none⟩ (.bool f'.packed)).setCell ⟨rb, j * 5 + 4, none⟩ (.int .i64 f'.msg)) (some rb) := (((((Oth.refl rb wc).setCell _).setCell _).setCell _).setCell _).setCell _
          have hbF : Below (w.heap.size + 1) wc (((((wc.setCell ⟨rb, j * 5, none⟩ (.int .i64 f'.number)).setCell ⟨rb, j * 5 + 1, none⟩ (.int .i64 f'.kind)).setCell ⟨rb, j * 5 + 2, none⟩ (.bool f'.rep)).setCell ⟨rb, j * 5 + 3, none⟩ (.bool f'.packed)).setCell ⟨rb, j * 5 + 4, none⟩ (.int .i64 f'.msg)) := below_grown (Below.refl _ _) hgr (fun b e => by cases e; omega) (by have := box_lt HFc.out.mid.res; omega)
          have hrbS : rb ≠ S := HFc.out.mid.out HW.out rfl (by decide)
          have hMF0 : Mid6b w B S (some ⟨g, 0, none⟩) n cap _ _ (((((wc.setCell ⟨rb, j * 5, none⟩ (.int .i64 f'.number)).setCell ⟨rb, j * 5 + 1, none⟩ (.int .i64 f'.kind)).setCell ⟨rb, j * 5 + 2, none⟩ (.bool f'.rep)).setCell ⟨rb, j * 5 + 3, none⟩ (.bool f'.packed)).setCell ⟨rb, j * 5 + 4, none⟩ (.int .i64 f'.msg)) :=
            ⟨HFc.out.mid.own.row (by decide) HR.out HX.out hgr (fs := x0.flds.set j f') (by rw [List.length_set]; exact HN.out) hst, HFc.out.mid.good.set k (by simpa using hx14) ⟨HXO.out.id, by simpa using HXO.out.n, fun f hf => by
              rcases List.mem_or_eq_of_mem_set hf with hf | rfl
              · exact HXO.out.flds f hf
              · exact HFk.out⟩, (hbF.block _ (by omega)).trans HFc.out.mid.res, (hgr.block S (box_lt HFc.out.mid.box) (fun e => hrbS (by cases e; rfl))).trans HFc.out.mid.box, HFc.out.mid.up.below hBl hbF (by omega)⟩
          have hMF := hMF0.below hBl (Below.refl _ _).drew
          clear hMF0
          obtain ⟨kS', kR', fR', fS'⟩ := seen _ _ _ _ _ _ hMF
          have HMF := Lib.hid hMF; clear hMF hst hgr hbF kS kR fR fS q0 q1 q2 q3 q4 fq d0 d1 d2 d3 d4 hfr hS c0 c1
          go_wp2_with fail
          exact fin _ _ _ _ _ _ HMF.out _ rfl
  · go_wp2_with fail
    refine (l1Below_any B 3 _ hM.up.cur (by omega) (by omega)).mono ?_
    rintro r w4 ⟨y, rfl, hy0, hy1, hc4, ho4⟩
    have hM4 := hM.step hBl hSl hc4 ho4
    clear hM hc4 ho4
    have hM := hM4; clear hM4
    obtain ⟨g, rfl, hg0, hgl, hgS, rid, ra, rn, rcap, x0, hr, hx, hxm, hrn, hrow, c0, c1, hfz⟩ := hM.at hk
    have hgB : g ≠ B := by omega
    have hx14 : x0.flds.length ≤ 14 := hM.good.len x0 hxm
    have HXO := Lib.hid (hM.good.ok x0 hxm)
    have HR := Lib.hid hr; have HX := Lib.hid hx; have HW := Lib.hid hrow; clear hr hx hrow hxm
    have HN := Lib.hid hrn; clear hrn
    obtain ⟨kS, kR, fR, fS⟩ := seen _ _ _ _ _ _ hM
    have HM := Lib.hid hM; clear hM
    have X5 : ∃ x, xs[k]? = some x ∧ x.flds.length ≤ 5 + 0 := ⟨x0, HX.out, by have := H5 x0 (List.mem_of_getElem? HX.out); omega⟩
    clear H5
    rcases (show y = 0 ∨ y = 1 ∨ 2 ≤ y by omega) with rfl | rfl | h2
    · go_upto_region 10 with fail
      refine wp_region_till (Cells [(⟨S, 0, none⟩, .slice (some ⟨g, 0, none⟩) n cap)]) (fun i => decide (8 ≤ i)) (by kernel_rfl) ?_
      have hS : Cells [(⟨S, 0, none⟩, .slice (some ⟨g, 0, none⟩) n cap)] w4.drew := cells_mk kS (cells_no _)
      refine wpTill_take (i := 0) (v := ?v0_81) rfl (by kernel_rfl) (by kernel_rfl) (by kernel_rfl) (by kernel_rfl) (fun _ _ _ h => h) (Or.inl ⟨by rfl, ?y0_81⟩) hS ?r0_81
      case y0_81 => (intro wq hq; (try simp only [cells_cons, cells_nil, and_true] at hq); first | (go_simp; done) | (go_simp; with_reducible rfl) | (obtain ⟨hq1, hq2⟩ := hq; go_simp; with_reducible rfl))
      try simp only [List.getElem_toArray, List.getElem_cons_succ, List.getElem_cons_zero, Act.put, List.setIfInBounds_toArray, List.set_cons_zero, List.set_cons_succ]
      refine wpTill_take (i := 1) (v := ?v1_82) rfl (by kernel_rfl) (by kernel_rfl) (by kernel_rfl) (by kernel_rfl) (fun _ _ _ h => h) (Or.inl ⟨by rfl, ?y1_82⟩) hS ?r1_82
      case y1_82 => (intro wq hq; (try simp only [cells_cons, cells_nil, and_true] at hq); first | (go_simp; done) | (go_simp; with_reducible rfl) | (obtain ⟨hq1, hq2⟩ := hq; go_simp; with_reducible rfl))
      try simp only [List.getElem_toArray, List.getElem_cons_succ, List.getElem_cons_zero, Act.put, List.setIfInBounds_toArray, List.set_cons_zero, List.set_cons_succ]
      refine wpTill_take (i := 2) (v := ?v2_83) rfl (by kernel_rfl) (by kernel_rfl) (by kernel_rfl) (by kernel_rfl) (fun _ _ _ h => h) (Or.inl ⟨by rfl, ?y2_83⟩) hS ?r2_83
      case y2_83 => (intro wq hq; (try simp only [cells_cons, cells_nil, and_true] at hq); first | (go_simp; done) | (go_simp; with_reducible rfl) | (obtain ⟨hq1, hq2⟩ := hq; go_simp; with_reducible rfl))
      try simp only [List.getElem_toArray, List.getElem_cons_succ, List.getElem_cons_zero, Act.put, List.setIfInBounds_toArray, List.set_cons_zero, List.set_cons_succ]
      refine wpTill_take (i := 3) (v := ?v3_84) rfl (by kernel_rfl) (by kernel_rfl) (by kernel_rfl) (by kernel_rfl) (fun _ _ _ h => h) (Or.inl ⟨by rfl, ?y3_84⟩) hS ?r3_84
      case y3_84 => (intro wq hq; (try simp only [cells_cons, cells_nil, and_true] at hq); first | (go_simp; done) | (go_simp; with_reducible rfl) | (obtain ⟨hq1, hq2⟩ := hq; go_simp; with_reducible rfl))
      try simp only [List.getElem_toArray, List.getElem_cons_succ, List.getElem_cons_zero, Act.put, List.setIfInBounds_toArray, List.set_cons_zero, List.set_cons_succ]
      refine wpTill_op (i := 4) (by kernel_rfl) rfl (fun K hK => ?_)
      go_simp
      refine hK.out _ _ (fun _ => (hS.alloc _).drew) ?_
      clear hK K
      try simp only [List.getElem_toArray, List.getElem_cons_succ, List.getElem_cons_zero, Act.put, List.setIfInBounds_toArray, List.set_cons_zero, List.set_cons_succ]
      have hMa := HM.out.below (wy := (w4.alloc (.cells #[.int .i64 0, .int .i64 (-1), .int .i64 100, .int .i64 5, .int .i64 1] 3)).drew) hBl ((Below.refl _ _).alloc (Nat.le_refl _) _).drew
      refine wpTill_op (i := 5) (by kernel_rfl) rfl (fun K hK => ?_)
      go_simp
      refine (l1PickInt_in B w4.heap.size 5 [0, -1, 100, 5, 1] 3 _ hMa.up.cur (by have := box_lt HM.out.box; omega) (hset_drew (hset_new rfl)) (by decide) (by decide)).mono ?_
      rintro r w5 ⟨i, rfl, him, hc5, ho5⟩
      have hiw : W64 i := by
        simp only [List.mem_cons, List.not_mem_nil, or_false] at him
        rcases him with rfl | rfl | rfl | rfl | rfl <;> exact w64_lim (by omega) (by omega)
      have hM5 := hMa.step hBl hSl hc5 ho5
      have hS5 : Cells [(⟨S, 0, none⟩, .slice (some ⟨g, 0, none⟩) n cap)] w5 := cells_mk (box_cells hM5.box 0) (cells_no _)
      have c05 : w5.cell? ⟨g, k * 2, none⟩ = some (.int .i64 rid) := by
        exact own_at hM5.own.outer (by rw [show k * 2 = k * 2 + 0 by rfl, flatMap_at shR_len rs k 0 _ HR.out (by omega)]; rfl)
      have hfz5 : ∀ j, w5.frozen? ⟨g, j, none⟩ = false := hM5.own.outer.frozenAt
      have HM5 := Lib.hid hM5; have HI := Lib.hid hiw; clear hM5 hiw him hc5 ho5 hMa c0 c1 hfz
      refine hK.out _ _ (fun _ => hS5) ?_
      clear hK K hS
      try simp only [List.getElem_toArray, List.getElem_cons_succ, List.getElem_cons_zero, Act.put, List.setIfInBounds_toArray, List.set_cons_zero, List.set_cons_succ]
      refine wpTill_op (i := 6) (by kernel_rfl) rfl (fun K hK => ?_)
      go_simp
      refine hK.out _ _ (fun _ => hS5) ?_
      clear hK K
      try simp only [List.getElem_toArray, List.getElem_cons_succ, List.getElem_cons_zero, Act.put, List.setIfInBounds_toArray, List.set_cons_zero, List.set_cons_succ]
      refine wpTill_op (i := 7) (by kernel_rfl) rfl (fun K hK => ?_)
      go_simp
      refine hK.out _ _ (fun _ => hS5) ?_
      clear hK K
      try simp only [List.getElem_toArray, List.getElem_cons_succ, List.getElem_cons_zero, Act.put, List.setIfInBounds_toArray, List.set_cons_zero, List.set_cons_succ]
      refine wpTill_op (i := 8) (by kernel_rfl) rfl (fun K hK => ?_)
      go_simp
      refine hK.out _ _ (fun e => by cases e) ?_
      clear hK K
      refine wpTill_done (by kernel_rfl) ?_ _
      have hMF := HM5.out.put (o := k * 2) (u := .int .i64 i) hBl (by omega) hgS (HM5.out.own.setId (by decide) HR.out HX.out i) (HM5.out.good.set k (by show x0.flds.length ≤ 14; omega) ⟨HI.out, HXO.out.n, HXO.out.flds⟩)
      obtain ⟨kS', kR', fR', fS'⟩ := seen _ _ _ _ _ _ hMF
      have HMF := Lib.hid hMF; clear hMF hS5 c05 hfz5 kS kR fR fS
      go_wp2_with fail
      exact fin _ _ _ _ _ _ HMF.out _ rfl
    · clear kS kR fR fS c0 c1 hfz HR HX HW HN HXO hgS hgB
      go_wp2_with fail
      go_loopw [] (fun wr => ∃ (a : Option Addr) (n cap : Nat) (rs : List ShR) (xs : List Shp), Mid6b w B S a n cap rs xs wr ∧ n ≤ 7) (fun wr => msr6 S wr)
      case atStart => exact ⟨_, _, _, _, _, HM.out, by omega⟩
      case round =>
        obtain ⟨a, m, cp, rs, xs, hM, hm7⟩ := hrel
        obtain ⟨wq, hwq⟩ : ∃ wq : World, wq = wr := ⟨_, rfl⟩
        subst hwq
        have hmeas := hM.msr
        obtain ⟨kS, kR, fR, fS⟩ := seen _ _ _ _ _ _ hM
        have HM := Lib.hid hM; have HMS := Lib.hid hmeas; clear hM hmeas
        go_upto_region 12 with fail
        refine wp_region_till (Cells [(⟨S, 0, none⟩, .slice a m cp)]) (fun _ => false) (by kernel_rfl) ?_
        have hS : Cells [(⟨S, 0, none⟩, .slice a m cp)] wq.drew := cells_mk kS (cells_no _)
        have HMd := Lib.hid (HM.out.below (wy := wq.drew) hBl (Below.refl _ _).drew)
        refine wpTill_take (i := 0) (v := ?v0_85) rfl (by kernel_rfl) (by kernel_rfl) (by kernel_rfl) (by kernel_rfl) (fun _ _ _ h => h) (Or.inl ⟨by rfl, ?y0_85⟩) hS ?r0_85
        case y0_85 => (intro wq hq; (try simp only [cells_cons, cells_nil, and_true] at hq); first | (go_simp; done) | (go_simp; with_reducible rfl) | (obtain ⟨hq1, hq2⟩ := hq; go_simp; with_reducible rfl))
        try simp only [List.getElem_toArray, List.getElem_cons_succ, List.getElem_cons_zero, Act.put, List.setIfInBounds_toArray, List.set_cons_zero, List.set_cons_succ]
        refine wpTill_take (i := 1) (v := ?v1_86) rfl (by kernel_rfl) (by kernel_rfl) (by kernel_rfl) (by kernel_rfl) (fun _ _ _ h => h) (Or.inl ⟨by rfl, ?y1_86⟩) hS ?r1_86
        case y1_86 => (intro wq hq; (try simp only [cells_cons, cells_nil, and_true] at hq); first | (go_simp; done) | (go_simp; with_reducible rfl) | (obtain ⟨hq1, hq2⟩ := hq; go_simp; with_reducible rfl))
        try simp only [List.getElem_toArray, List.getElem_cons_succ, List.getElem_cons_zero, Act.put, List.setIfInBounds_toArray, List.set_cons_zero, List.set_cons_succ]
        refine wpTill_take (i := 2) (v := ?v2_87) rfl (by kernel_rfl) (by kernel_rfl) (by kernel_rfl) (by kernel_rfl) (fun _ _ _ h => h) (Or.inl ⟨by rfl, ?y2_87⟩) hS ?r2_87
        case y2_87 => (intro wq hq; (try simp only [cells_cons, cells_nil, and_true] at hq); first | (go_simp; done) | (go_simp; with_reducible rfl) | (obtain ⟨hq1, hq2⟩ := hq; go_simp; with_reducible rfl))
        try simp only [List.getElem_toArray, List.getElem_cons_succ, List.getElem_cons_zero, Act.put, List.setIfInBounds_toArray, List.set_cons_zero, List.set_cons_succ]
        refine wpTill_take (i := 3) (v := ?v3_88) rfl (by kernel_rfl) (by kernel_rfl) (by kernel_rfl) (by kernel_rfl) (fun _ _ _ h => h) (Or.inl ⟨by rfl, ?y3_88⟩) hS ?r3_88
        case y3_88 => (intro wq hq; (try simp only [cells_cons, cells_nil, and_true] at hq); first | (go_simp; done) | (go_simp; with_reducible rfl) | (obtain ⟨hq1, hq2⟩ := hq; go_simp; with_reducible rfl))
        try simp only [List.getElem_toArray, List.getElem_cons_succ, List.getElem_cons_zero, Act.put, List.setIfInBounds_toArray, List.set_cons_zero, List.set_cons_succ]
        refine wpTill_op (i := 4) (by kernel_rfl) rfl (fun K hK => ?_)
        go_simp
        refine (l1Below_any B 2 _ HMd.out.up.cur (by omega) (by omega)).mono ?_
        rintro r v3 ⟨i3, rfl, hi30, hi31, hd3, hp3⟩
        have HM3 := Lib.hid (HMd.out.step hBl hSl hd3 hp3)
        have hS3 := hS.oth hp3 (by intro q hq; simp only [List.mem_cons, List.not_mem_nil, or_false] at hq; subst hq; exact hSB)
        clear hd3 hp3 hS
        refine hK.out _ _ (fun _ => hS3) ?_
        clear hK K HMd
        try simp only [List.getElem_toArray, List.getElem_cons_succ, List.getElem_cons_zero, Act.put, List.setIfInBounds_toArray, List.set_cons_zero, List.set_cons_succ]
        have hw6 : IntKind.i64.wrap (6 + i3) = 6 + i3 := by rw [IntKind.wrap_i64]; omega
        refine wpTill_op (i := 5) (by kernel_rfl) rfl (fun K hK => ?_)
        go_simp
        clear hw6
        refine hK.out _ _ (fun _ => hS3) ?_
        clear hK K
        try simp only [List.getElem_toArray, List.getElem_cons_succ, List.getElem_cons_zero, Act.put, List.setIfInBounds_toArray, List.set_cons_zero, List.set_cons_succ]
        refine wpTill_op (i := 6) (by kernel_rfl) rfl (fun K hK => ?_)
        go_simp
        refine hK.out _ _ (fun _ => hS3) ?_
        clear hK K
        refine wpTill_done (by kernel_rfl) ?_ _
        obtain ⟨kS', kR', fR', fS'⟩ := seen _ _ _ _ _ _ HM3.out
        clear kS kR fR fS hS3 HM
        cases hd : decide ((m : Int) < 6 + i3)
        · go_wp2_with fail
          exact fin _ _ _ _ _ _ HM3.out _ rfl
        · have hlt := of_decide_eq_true hd
          have HA := Lib.hid (HM3.out.below (wy := v3.alloc (.cells #[.int .i64 (20 + m), .slice none 0 0] 40)) hBl ((Below.refl _ _).alloc (Nat.le_refl _) _))
          go_wp2_with (first | (at_builtin; refine wpList_append_lies _ rfl _ _ 24 rfl (w.heap.size + 1) 40 iS _ 2 32 Try.underlying24 hiS hs0 hs1 hs2 rfl (by decide) _ m (rs.flatMap ShR.cs) rfl HA.out.own.outer ⟨v3.heap.size, 0, none⟩ 1 1 [.int .i64 (20 + m), .slice none 0 0] rfl rfl (World.news_of_block (cs := #[.int .i64 (20 + m), .slice none 0 0]) (t := 40) (fr := (0, 0)) (hset_new rfl)) (by simp [Value.oneCell']) (by omega) (by unfold maxLen; omega) (by omega) (by have := box_lt HA.out.res; omega) _ rfl ?_; intro gn capn w11 hown11 hgr11 hat11 hlt11; have hMF := HA.out.push hBl hSl (by omega) (w64_of (u := 20 + m) (by omega) (by omega)) hown11 hgr11; have hS11 := HA.out.boxAt hgr11; have kS2 := box_cells hS11 0; have fS2 := box_frozen hS11; have HMF2 := Lib.hid hMF; clear hMF hS11 hown11 hgr11 hat11 kS' kR' fR' fS'))
          have hme := HMF2.out.msr
          go_roundw
          case rel => exact ⟨_, _, _, _, _, HMF2.out, by omega⟩
          case measure => rw [hme, HMS.out]; omega
    · clear HX HR HW HN HXO hx14 hgS hgB c0 c1 hfz kS kR fR fS hg0 hgl
      go_wp2_with fail
      go_loopw [5] (fun i wr => ∃ q : Nat, q ≤ 9 ∧ i = .int .i64 q ∧ ∃ (rs : List ShR) (xs : List Shp), Mid6b w B S (some ⟨g, 0, none⟩) n cap rs xs wr ∧ ∃ x, xs[k]? = some x ∧ x.flds.length ≤ 5 + q) (fun i _ => 10 - (intOf i).toNat)
      case atStart => exact ⟨0, by omega, rfl, _, _, HM.out, X5⟩
      case round =>
        obtain ⟨q, hq9, rfl, rs, xs, hM, x0, hx, hx5q⟩ := hrel
        obtain ⟨wq, hwq⟩ : ∃ wq : World, wq = wr := ⟨_, rfl⟩
        subst hwq
        obtain ⟨kS, kR, fR, fS⟩ := seen _ _ _ _ _ _ hM
        have HX := Lib.hid hx; have HM := Lib.hid hM; clear hM hx
        go_wp2_with fail
        refine (l1Below_any B 2 _ HM.out.up.cur (by omega) (by omega)).mono ?_
        rintro r v3 ⟨i3, rfl, hi30, hi31, hd3, hp3⟩
        have HM3 := Lib.hid (HM.out.step hBl hSl hd3 hp3)
        have hw8 : IntKind.i64.wrap (8 + i3) = 8 + i3 := by rw [IntKind.wrap_i64]; omega
        obtain ⟨kS', kR', fR', fS'⟩ := seen _ _ _ _ _ _ HM3.out
        clear kS kR fR fS HM hd3 hp3
        cases hd : decide ((q : Int) < 8 + i3)
        · go_wp2_with fail
          exact fin _ _ _ _ _ _ HM3.out _ rfl
        · have hlt := of_decide_eq_true hd
          have hq8 : q ≤ 8 := by omega
          obtain ⟨g_, eg, hg0, hgl, hgS, rid, ra, rn, rcap, x0_, hr, hx_, hxm, hrn, hrow, c0, c1, hfz⟩ := HM3.out.at hk
          obtain rfl : g = g_ := by simpa using eg
          rw [HX.out] at hx_
          obtain rfl := Option.some.inj hx_
          clear eg
          have hgB : g ≠ B := by omega
          have HXO := Lib.hid (HM3.out.good.ok x0 hxm)
          have HR := Lib.hid hr; have HW := Lib.hid hrow; have HN := Lib.hid hrn; clear hr hrow hxm hx_ hrn
          have hrn14 : rn ≤ 13 := by have := HN.out; omega
          go_upto_region 8 with fail
          refine wp_region_till (Cells [(⟨S, 0, none⟩, .slice (some ⟨g, 0, none⟩) n cap), (⟨g, k * 2 + 1, none⟩, .slice ra rn rcap)]) (fun i => decide (16 ≤ i)) (by kernel_rfl) ?_
          have hS : Cells [(⟨S, 0, none⟩, .slice (some ⟨g, 0, none⟩) n cap), (⟨g, k * 2 + 1, none⟩, .slice ra rn rcap)] v3.drew := cells_mk kS' (cells_mk c1 (cells_no _))
          clear c0 c1 hfz
          refine wpTill_take (i := 0) (v := ?v0_89) rfl (by kernel_rfl) (by kernel_rfl) (by kernel_rfl) (by kernel_rfl) (fun _ _ _ h => h) (Or.inl ⟨by rfl, ?y0_89⟩) hS ?r0_89
          case y0_89 => (intro wq hq; (try simp only [cells_cons, cells_nil, and_true] at hq); first | (go_simp; done) | (go_simp; with_reducible rfl) | (obtain ⟨hq1, hq2⟩ := hq; go_simp; with_reducible rfl))
          try simp only [List.getElem_toArray, List.getElem_cons_succ, List.getElem_cons_zero, Act.put, List.setIfInBounds_toArray, List.set_cons_zero, List.set_cons_succ]
          refine wpTill_take (i := 1) (v := ?v1_90) rfl (by kernel_rfl) (by kernel_rfl) (by kernel_rfl) (by kernel_rfl) (fun _ _ _ h => h) (Or.inl ⟨by rfl, ?y1_90⟩) hS ?r1_90
          case y1_90 => (intro wq hq; (try simp only [cells_cons, cells_nil, and_true] at hq); first | (go_simp; done) | (go_simp; with_reducible rfl) | (obtain ⟨hq1, hq2⟩ := hq; go_simp; with_reducible rfl))
          try simp only [List.getElem_toArray, List.getElem_cons_succ, List.getElem_cons_zero, Act.put, List.setIfInBounds_toArray, List.set_cons_zero, List.set_cons_succ]
          refine wpTill_take (i := 2) (v := ?v2_91) rfl (by kernel_rfl) (by kernel_rfl) (by kernel_rfl) (by kernel_rfl) (fun _ _ _ h => h) (Or.inl ⟨by rfl, ?y2_91⟩) hS ?r2_91
          case y2_91 => (intro wq hq; (try simp only [cells_cons, cells_nil, and_true] at hq); first | (go_simp; done) | (go_simp; with_reducible rfl) | (obtain ⟨hq1, hq2⟩ := hq; go_simp; with_reducible rfl))
          try simp only [List.getElem_toArray, List.getElem_cons_succ, List.getElem_cons_zero, Act.put, List.setIfInBounds_toArray, List.set_cons_zero, List.set_cons_succ]
          refine wpTill_take (i := 3) (v := ?v3_92) rfl (by kernel_rfl) (by kernel_rfl) (by kernel_rfl) (by kernel_rfl) (fun _ _ _ h => h) (Or.inl ⟨by rfl, ?y3_92⟩) hS ?r3_92
          case y3_92 => (intro wq hq; (try simp only [cells_cons, cells_nil, and_true] at hq); first | (go_simp; done) | (go_simp; with_reducible rfl) | (obtain ⟨hq1, hq2⟩ := hq; go_simp; with_reducible rfl))
          try simp only [List.getElem_toArray, List.getElem_cons_succ, List.getElem_cons_zero, Act.put, List.setIfInBounds_toArray, List.set_cons_zero, List.set_cons_succ]
          refine wpTill_take (i := 4) (v := ?v4_93) rfl (by kernel_rfl) (by kernel_rfl) (by kernel_rfl) (by kernel_rfl) (fun _ _ _ h => h) (Or.inl ⟨by rfl, ?y4_93⟩) hS ?r4_93
          case y4_93 => (intro wq hq; (try simp only [cells_cons, cells_nil, and_true] at hq); first | (go_simp; done) | (go_simp; with_reducible rfl) | (obtain ⟨hq1, hq2⟩ := hq; go_simp; with_reducible rfl))
          try simp only [List.getElem_toArray, List.getElem_cons_succ, List.getElem_cons_zero, Act.put, List.setIfInBounds_toArray, List.set_cons_zero, List.set_cons_succ]
          refine wpTill_take (i := 5) (v := ?v5_94) rfl (by kernel_rfl) (by kernel_rfl) (by kernel_rfl) (by kernel_rfl) (fun _ _ _ h => h) (Or.inl ⟨by rfl, ?y5_94⟩) hS ?r5_94
          case y5_94 => (intro wq hq; (try simp only [cells_cons, cells_nil, and_true] at hq); first | (go_simp; done) | (go_simp; with_reducible rfl) | (obtain ⟨hq1, hq2⟩ := hq; go_simp; with_reducible rfl))
          try simp only [List.getElem_toArray, List.getElem_cons_succ, List.getElem_cons_zero, Act.put, List.setIfInBounds_toArray, List.set_cons_zero, List.set_cons_succ]
          refine wpTill_take (i := 6) (v := ?v6_95) rfl (by kernel_rfl) (by kernel_rfl) (by kernel_rfl) (by kernel_rfl) (fun _ _ _ h => h) (Or.inl ⟨by rfl, ?y6_95⟩) hS ?r6_95
          case y6_95 => (intro wq hq; (try simp only [cells_cons, cells_nil, and_true] at hq); first | (go_simp; done) | (go_simp; with_reducible rfl) | (obtain ⟨hq1, hq2⟩ := hq; go_simp; with_reducible rfl))
          try simp only [List.getElem_toArray, List.getElem_cons_succ, List.getElem_cons_zero, Act.put, List.setIfInBounds_toArray, List.set_cons_zero, List.set_cons_succ]
          refine wpTill_take (i := 7) (v := ?v7_96) rfl (by kernel_rfl) (by kernel_rfl) (by kernel_rfl) (by kernel_rfl) (fun _ _ _ h => h) (Or.inl ⟨by rfl, ?y7_96⟩) hS ?r7_96
          case y7_96 => (intro wq hq; (try simp only [cells_cons, cells_nil, and_true] at hq); first | (go_simp; done) | (go_simp; with_reducible rfl) | (obtain ⟨hq1, hq2⟩ := hq; go_simp; with_reducible rfl))
          try simp only [List.getElem_toArray, List.getElem_cons_succ, List.getElem_cons_zero, Act.put, List.setIfInBounds_toArray, List.set_cons_zero, List.set_cons_succ]
          refine wpTill_take (i := 8) (v := ?v8_97) rfl (by kernel_rfl) (by kernel_rfl) (by kernel_rfl) (by kernel_rfl) (fun _ _ _ h => h) (Or.inl ⟨by rfl, ?y8_97⟩) hS ?r8_97
          case y8_97 => (intro wq hq; (try simp only [cells_cons, cells_nil, and_true] at hq); first | (go_simp; done) | (go_simp; with_reducible rfl) | (obtain ⟨hq1, hq2⟩ := hq; go_simp; with_reducible rfl))
          try simp only [List.getElem_toArray, List.getElem_cons_succ, List.getElem_cons_zero, Act.put, List.setIfInBounds_toArray, List.set_cons_zero, List.set_cons_succ]
          refine wpTill_take (i := 9) (v := ?v9_98) rfl (by kernel_rfl) (by kernel_rfl) (by kernel_rfl) (by kernel_rfl) (fun _ _ _ h => h) (Or.inl ⟨by rfl, ?y9_98⟩) hS ?r9_98
          case y9_98 => (intro wq hq; (try simp only [cells_cons, cells_nil, and_true] at hq); first | (go_simp; done) | (go_simp; with_reducible rfl) | (obtain ⟨hq1, hq2⟩ := hq; go_simp; with_reducible rfl))
          try simp only [List.getElem_toArray, List.getElem_cons_succ, List.getElem_cons_zero, Act.put, List.setIfInBounds_toArray, List.set_cons_zero, List.set_cons_succ]
          have hw3 : IntKind.i64.wrap (100 + (q : Int)) = 100 + q := by rw [IntKind.wrap_i64]; omega
          refine wpTill_op (i := 10) (by kernel_rfl) rfl (fun K hK => ?_)
          go_simp
          clear hw3
          refine hK.out _ _ (fun _ => hS) ?_
          clear hK K
          try simp only [List.getElem_toArray, List.getElem_cons_succ, List.getElem_cons_zero, Act.put, List.setIfInBounds_toArray, List.set_cons_zero, List.set_cons_succ]
          refine wpTill_op (i := 11) (by kernel_rfl) rfl (fun K hK => ?_)
          go_simp
          refine hK.out _ _ (fun _ => hS) ?_
          clear hK K
          try simp only [List.getElem_toArray, List.getElem_cons_succ, List.getElem_cons_zero, Act.put, List.setIfInBounds_toArray, List.set_cons_zero, List.set_cons_succ]
          refine wpTill_op (i := 12) (by kernel_rfl) rfl (fun K hK => ?_)
          go_simp
          refine hK.out _ _ (fun _ => (hS.alloc _).drew) ?_
          clear hK K
          try simp only [List.getElem_toArray, List.getElem_cons_succ, List.getElem_cons_zero, Act.put, List.setIfInBounds_toArray, List.set_cons_zero, List.set_cons_succ]
          obtain ⟨W, hWe⟩ : ∃ W : World, W = (v3.alloc (.cells #[.int .i64 (100 + q), .int .i64 1, .bool false, .bool false, .int .i64 0] 45)).drew := ⟨_, rfl⟩
          have hW : Below v3.heap.size v3 W := by rw [hWe]; exact ((Below.refl _ _).alloc (Nat.le_refl _) _).drew
          have hSW : Cells [(⟨S, 0, none⟩, .slice (some ⟨g, 0, none⟩) n cap), (⟨g, k * 2 + 1, none⟩, .slice ra rn rcap)] W := by rw [hWe]; exact (hS.alloc _).drew
          have HNW := Lib.hid (World.news_of_block (w := W) (cs := #[.int .i64 (100 + q), .int .i64 1, .bool false, .bool false, .int .i64 0]) (t := 45) (fr := (0, 0)) (B := v3.heap.size) (by rw [hWe]; exact hset_drew (hset_new rfl)))
          have HMW := Lib.hid (HM3.out.below hBl hW)
          have HOW := Lib.hid ((HMW.out.own.each k _ x0 HR.out HX.out).2.2)
          have hrb : ∀ b, (Value.slice ra rn rcap).ownBlock = some b → w.heap.size < b := fun b e => by have := (HOW.out.lt b e).1; omega
          have hgW : ∀ b, (Value.slice ra rn rcap).ownBlock = some b → b ≠ g := fun b e e' => HMW.out.own.outerNe (by decide) HR.out HX.out e (by rw [e']; rfl)
          have hSW' : ∀ b, (Value.slice ra rn rcap).ownBlock = some b → b ≠ S := fun b e => HMW.out.out HOW.out e (by decide)
          clear hS hW
          refine wpTill_op (i := 13) (by kernel_rfl) rfl (fun K hK => ?_)
          rw [← hWe]
          refine step_append_lies W rfl _ _ 38 rfl (w.heap.size + 1) 45 iF _ 5 32 Try.underlying38 hiF hf0 hf1 hf2 rfl (by decide) (.slice ra rn rcap) rn (x0.flds.flatMap Fld.cs) rfl HOW.out ⟨v3.heap.size, 0, none⟩ 1 1 [.int .i64 (100 + q), .int .i64 1, .bool false, .bool false, .int .i64 0] rfl rfl HNW.out (by simp [Value.oneCell']) (by omega) (by have := HN.out; unfold maxLen; omega) (by have := HN.out; omega) (by have := box_lt HMW.out.res; omega) _ rfl ?_
          intro gn capn w11 hown11 hgr11 hat11 hlt11
          have hS11 := hSW.grown hgr11 (by intro q' hq' e; simp only [List.mem_cons, List.not_mem_nil, or_false] at hq'; rcases hq' with rfl | rfl <;> first | exact hSW' _ e rfl | exact hgW _ e rfl)
          refine hK.out _ _ (fun _ => hS11) ?_
          clear hK K hSW
          try simp only [List.getElem_toArray, List.getElem_cons_succ, List.getElem_cons_zero, Act.put, List.setIfInBounds_toArray, List.set_cons_zero, List.set_cons_succ]
          have hO11 := HMW.out.own.outerKept (by decide) HR.out HX.out hgr11
          have hfz : ∀ j, w11.frozen? ⟨g, j, none⟩ = false := hO11.frozenAt
          have hrowc : w11.cell? ⟨g, k * 2 + 1, none⟩ = some (.slice ra rn rcap) := hS11 (⟨g, k * 2 + 1, none⟩, _) (by simp)
          clear hO11
          refine wpTill_op (i := 14) (by kernel_rfl) rfl (fun K hK => ?_)
          go_simp
          refine hK.out _ _ (fun _ => hS11) ?_
          clear hK K
          try simp only [List.getElem_toArray, List.getElem_cons_succ, List.getElem_cons_zero, Act.put, List.setIfInBounds_toArray, List.set_cons_zero, List.set_cons_succ]
          refine wpTill_op (i := 15) (by kernel_rfl) rfl (fun K hK => ?_)
          go_simp
          refine hK.out _ _ (fun _ => hS11) ?_
          clear hK K
          try simp only [List.getElem_toArray, List.getElem_cons_succ, List.getElem_cons_zero, Act.put, List.setIfInBounds_toArray, List.set_cons_zero, List.set_cons_succ]
          refine wpTill_op (i := 16) (by kernel_rfl) rfl (fun K hK => ?_)
          go_simp
          refine hK.out _ _ (fun e => by cases e) ?_
          clear hK K
          refine wpTill_done (by kernel_rfl) ?_ _
          have hOF := HMW.out.own.growAt (by decide) HR.out HX.out hgr11 (a' := some ⟨gn, 0, none⟩) (m' := rn + 1) (cap' := capn) (fs := x0.flds ++ [⟨100 + q, 1, false, false, 0⟩]) (by simp [HN.out]) (by simpa [List.flatMap_append, Fld.cs] using hown11) (fun b e => by have e' : gn = b := Option.some.inj e; subst e'; exact hat11.imp id (fun e => Nat.le_of_eq e.symm))
          have hbF : Below (w.heap.size + 1) W (w11.setCell ⟨g, k * 2 + 1, none⟩ (.slice (some ⟨gn, 0, none⟩) (rn + 1) capn)) := (below_grown (Below.refl _ _) hgr11 (fun b e => by have := hrb b e; omega) (by have := box_lt HMW.out.res; omega)).setCell (by simp; omega) _
          have hMF : Mid6b w B S (some ⟨g, 0, none⟩) n cap _ _ (w11.setCell ⟨g, k * 2 + 1, none⟩ (.slice (some ⟨gn, 0, none⟩) (rn + 1) capn)) := ⟨hOF, HMW.out.good.set k (by simp; have := HN.out; omega) ⟨HXO.out.id, by simp; unfold maxLen; have := HN.out; omega, fun f hf => by
              rcases List.mem_append.1 hf with hf | hf
              · exact HXO.out.flds f hf
              · simp at hf; subst hf; exact ⟨w64_of (by simp only; omega) (by simp only; omega), w64_of (by simp only; omega) (by simp only; omega), w64_of (by simp only; omega) (by simp only; omega)⟩⟩,
            (hbF.block _ (by omega)).trans HMW.out.res, hset_other ((hgr11.block S (box_lt HMW.out.box) (fun e => hSW' S e.symm rfl)).trans HMW.out.box) (by simpa using Ne.symm hgS), HMW.out.up.below hBl hbF (by omega)⟩
          have hxk : (xs.set k ⟨x0.id, x0.flds ++ [⟨100 + q, 1, false, false, 0⟩]⟩)[k]? = some ⟨x0.id, x0.flds ++ [⟨100 + q, 1, false, false, 0⟩]⟩ := List.getElem?_set_self (List.getElem?_eq_some_iff.1 HX.out).1
          have HMF := Lib.hid hMF; have HXK := Lib.hid hxk; clear hMF hxk hS11 hrowc hfz kS' kR' fR' fS' hOF hbF hown11 hgr11
          go_wp2_with fail
          go_roundw
          case rel => exact ⟨q + 1, by omega, by go_num, _, _, HMF.out, _, HXK.out, by simp; omega⟩
          case measure => simp [intOf]; omega
end Go.Proofs.Ytbpilecgnfnndaa
namespace Go.Proofs.Ytbpilecgnfnndaa
set_option linter.unusedSimpArgs false
set_option linter.unusedVariables false
open Go.ChangeShapes Go.WideShapes Go.ChangeAt Go.RowKit Go.BigFrame
def sameF (f g : Fld) : Bool := decide (f = g)
theorem run_neq_fld (a b e a' b' e' : Int) (p q p' q' : Bool) (w : World) :
    (binOp .neq 47 (.agg #[.int .i64 a, .int .i64 b, .bool p, .bool q, .int .i64 e]) (.agg #[.int .i64 a', .int .i64 b', .bool p', .bool q', .int .i64 e'])).run Try.prog w = .ok (.bool (!sameF ⟨a, b, p, q, e⟩ ⟨a', b', p', q', e'⟩)) w := by
  simp [go_sem, sameF]
  by_cases h1 : a = a' <;> by_cases h2 : b = b' <;> by_cases h3 : p = p' <;> by_cases h4 : q = q' <;> by_cases h5 : e = e' <;> simp [h1, h2, h3, h4, h5]
theorem filt_len : ∀ {ss : List Int} {k : Nat} {z : Int}, ss.Pairwise (· < ·) → ss[k]? = some z → (ss.filter fun y => decide (y < z)).length = k
  | [], k, z, _, h => by simp at h
  | s :: ss, 0, z, hp, h => by
    simp only [List.getElem?_cons_zero, Option.some.injEq] at h
    subst h
    rw [List.filter_cons_of_neg (by simp)]
    rw [List.length_eq_zero_iff, List.filter_eq_nil_iff]
    intro y hy
    have := (List.pairwise_cons.1 hp).1 y hy
    simp; omega
  | s :: ss, k + 1, z, hp, h => by
    simp only [List.getElem?_cons_succ] at h
    have hp' := List.pairwise_cons.1 hp
    have := hp'.1 z (List.mem_of_getElem? h)
    rw [List.filter_cons_of_pos (by simpa using this), List.length_cons, filt_len hp'.2 h]
def sortI (zs : List Int) : List Int := zs.mergeSort fun x y => decide (x ≤ y)
theorem sortI_perm (zs : List Int) : (sortI zs).Perm zs := List.mergeSort_perm _ _
theorem sortI_len (zs : List Int) : (sortI zs).length = zs.length := (sortI_perm zs).length_eq
theorem sortI_lt {zs : List Int} (h : zs.Nodup) : (sortI zs).Pairwise (· < ·) := by
  have h1 : (sortI zs).Pairwise (fun a b => decide (a ≤ b) = true) := List.pairwise_mergeSort (by intro a b c; simp; omega) (by intro a b; simp; omega) zs
  have h2 : (sortI zs).Pairwise (· ≠ ·) := List.nodup_iff_pairwise_ne.1 ((sortI_perm zs).nodup_iff.2 h)
  exact (h1.and h2).imp (by rintro a b ⟨h, h'⟩; simp at h; omega)
def rankI (zs : List Int) (z : Int) : Nat := (zs.filter fun y => decide (y < z)).length
theorem rankI_at {zs : List Int} (h : zs.Nodup) {k : Nat} {z : Int} (hz : (sortI zs)[k]? = some z) : rankI zs z = k := by
  rw [rankI, ← ((sortI_perm zs).filter _).length_eq]; exact filt_len (sortI_lt h) hz
theorem rankS_eq (xs : List Shp) (z : Int) : rankS xs z = rankI (xs.map Shp.id) z := by
  rw [rankS, rankI, List.filter_map, List.length_map]; rfl
theorem idx_at {zs : List Int} (h : zs.Nodup) {k : Nat} {z : Int} (hz : (sortI zs)[k]? = some z) : Lib.idxOf (sortI zs) z = k := by
  obtain ⟨hk, he⟩ := List.getElem?_eq_some_iff.1 hz
  have := Lib.idxFrom_hit z (sortI zs) k 0 hk (by rw [List.getD_eq_getElem?_getD, hz]; rfl) (by
    intro j hj e
    have hp := List.pairwise_iff_getElem.1 (sortI_lt h) j k (by omega) hk hj
    rw [List.getD_eq_getElem?_getD, List.getElem?_eq_getElem (by omega), Option.getD_some] at e
    rw [e, he] at hp; omega)
  simpa [Lib.idxOf] using this
theorem rank_idx {zs : List Int} (h : zs.Nodup) {z : Int} (hz : z ∈ zs) : Lib.idxOf (sortI zs) z = rankI zs z := by
  obtain ⟨k, hk⟩ := List.getElem?_of_mem ((sortI_perm zs).mem_iff.2 hz)
  rw [idx_at h hk, rankI_at h hk]
structure RawVal (xs : List Shp) : Prop where
  n : xs.length ≤ 6
  msg : ∀ (i : Nat) (x : Shp), xs[i]? = some x → msgC xs i x = 0
  fld : ∀ (i : Nat) (x : Shp), xs[i]? = some x → ∀ (k : Nat) (f : Fld), x.flds[k]? = some f → fldC xs x.flds k f = 0
theorem firstF_some {xs : List Shp} {i : Nat} {fs : List Fld} : ∀ {rest : List Fld} {k : Nat} {v : Int × Int × Int}, firstF xs i fs k rest = some v → v.1 ≠ 0
  | [], k, v, h => by simp [firstF] at h
  | f :: rest, k, v, h => by
    rw [firstF] at h
    by_cases hz : fldC xs fs k f = 0
    · rw [if_pos hz] at h; exact firstF_some h
    · rw [if_neg hz] at h; simp only [Option.some.injEq] at h; subst h; exact hz
theorem firstF_no {xs : List Shp} {i : Nat} {fs : List Fld} : ∀ {rest : List Fld} {k : Nat}, fs.drop k = rest → firstF xs i fs k rest = none → ∀ (j : Nat) (f : Fld), k ≤ j → fs[j]? = some f → fldC xs fs j f = 0
  | [], k, hd, h, j, f, hkj, hf => by
    have := List.drop_eq_nil_iff.1 hd
    obtain ⟨hj, _⟩ := List.getElem?_eq_some_iff.1 hf
    omega
  | g :: rest, k, hd, h, j, f, hkj, hf => by
    rw [firstF] at h
    by_cases hz : fldC xs fs k g = 0
    · rw [if_pos hz] at h
      have hg : fs[k]? = some g := by have := congrArg List.head? hd; rw [List.head?_drop] at this; simpa using this
      rcases Nat.eq_or_lt_of_le hkj with rfl | hlt
      · rw [hg] at hf; cases hf; exact hz
      · exact firstF_no (by have := congrArg List.tail hd; rw [List.tail_drop] at this; simpa using this) h j f hlt hf
    · rw [if_neg hz] at h; simp at h
theorem firstM_no {xs : List Shp} : ∀ {rest : List Shp} {i : Nat}, xs.drop i = rest → (firstM xs i rest).1 = 0 → ∀ (j : Nat) (x : Shp), i ≤ j → xs[j]? = some x → msgC xs j x = 0 ∧ ∀ (k : Nat) (f : Fld), x.flds[k]? = some f → fldC xs x.flds k f = 0
  | [], i, hd, h, j, x, hij, hx => by
    have := List.drop_eq_nil_iff.1 hd
    obtain ⟨hj, _⟩ := List.getElem?_eq_some_iff.1 hx
    omega
  | y :: rest, i, hd, h, j, x, hij, hx => by
    rw [firstM] at h
    by_cases hz : msgC xs i y = 0
    · rw [if_pos hz] at h
      have hy : xs[i]? = some y := by have := congrArg List.head? hd; rw [List.head?_drop] at this; simpa using this
      cases hF : firstF xs i y.flds 0 y.flds with
      | some v => rw [hF] at h; exact absurd h (firstF_some hF)
      | none =>
        rw [hF] at h
        rcases Nat.eq_or_lt_of_le hij with rfl | hlt
        · rw [hy] at hx; cases hx
          exact ⟨hz, fun k f hf => firstF_no (by simp) hF k f (Nat.zero_le _) hf⟩
        · exact firstM_no (by have := congrArg List.tail hd; rw [List.tail_drop] at this; simpa using this) h j x hlt hx
    · rw [if_neg hz] at h; exact absurd h hz
theorem val_of {xs : List Shp} (h : (firstV xs).1 = 0) : RawVal xs := by
  by_cases h6 : 6 < xs.length
  · rw [firstV, if_pos h6] at h; simp at h
  · rw [firstV, if_neg h6] at h
    have := firstM_no (xs := xs) (by simp) h
    exact ⟨by omega, fun i x hx => (this i x (Nat.zero_le _) hx).1, fun i x hx => (this i x (Nat.zero_le _) hx).2⟩
theorem RawVal.len {xs : List Shp} (h : RawVal xs) {x : Shp} (hx : x ∈ xs) : x.flds.length ≤ 8 := by
  obtain ⟨i, hi⟩ := List.getElem?_of_mem hx
  have := h.msg i x hi
  unfold msgC at this
  split at this
  · simp at this
  · split at this
    · simp at this
    · split at this
      · simp at this
      · omega
theorem msgC_id {xs : List Shp} {i : Nat} {x : Shp} (h : msgC xs i x = 0) : inB x.id 1 99 = true ∧ hasId (xs.take i) x.id = false := by
  unfold msgC at h
  split at h
  · simp at h
  · rename_i h1
    split at h
    · simp at h
    · rename_i h2
      exact ⟨by simpa using h1, by simpa using h2⟩
theorem RawVal.nodup {xs : List Shp} (h : RawVal xs) : (xs.map Shp.id).Nodup := by
  rw [List.nodup_iff_pairwise_ne, List.pairwise_iff_getElem]
  intro i j hi hj hij e
  rw [List.length_map] at hi hj
  simp only [List.getElem_map] at e
  have h2 := (msgC_id (h.msg j xs[j] (List.getElem?_eq_getElem hj))).2
  rw [hasId, List.any_eq_false] at h2
  have := h2 xs[i] (List.mem_of_getElem? (i := i) (by rw [List.getElem?_take]; simp [hij, List.getElem?_eq_getElem hi]))
  simp [e] at this
theorem fldC_num {xs : List Shp} {fs : List Fld} {k : Nat} {f : Fld} (h : fldC xs fs k f = 0) : hasNum (fs.take k) f.number = false ∧ refBad xs f = false := by
  unfold fldC at h
  split at h
  · simp at h
  · split at h
    · simp at h
    · rename_i h2
      split at h
      · simp at h
      · split at h
        · simp at h
        · split at h
          · simp at h
          · rename_i h5
            exact ⟨by simpa using h2, by simpa using h5⟩
def NumInj (fs : List Fld) : Prop := ∀ f ∈ fs, ∀ g ∈ fs, f.number = g.number → f = g
theorem RawVal.inj {xs : List Shp} (h : RawVal xs) {x : Shp} (hx : x ∈ xs) : NumInj x.flds := by
  obtain ⟨i, hi⟩ := List.getElem?_of_mem hx
  have key : ∀ (j k : Nat) (f g : Fld), x.flds[j]? = some f → x.flds[k]? = some g → j < k → f.number ≠ g.number := by
    intro j k f g hf hg hjk e
    have h2 := (fldC_num (h.fld i x hi k g hg)).1
    rw [hasNum, List.any_eq_false] at h2
    have := h2 f (List.mem_of_getElem? (i := j) (by rw [List.getElem?_take]; simp [hjk, hf]))
    simp [e] at this
  intro f hf g hg e
  obtain ⟨j, hj⟩ := List.getElem?_of_mem hf
  obtain ⟨k, hk⟩ := List.getElem?_of_mem hg
  rcases Nat.lt_trichotomy j k with hlt | rfl | hlt
  · exact absurd e (key j k f g hj hk hlt)
  · rw [hj] at hk; cases hk; rfl
  · exact absurd e.symm (key k j g f hk hj hlt)
theorem RawVal.ref {xs : List Shp} (h : RawVal xs) {x : Shp} (hx : x ∈ xs) {f : Fld} (hf : f ∈ x.flds) (h8 : f.kind = 8) : f.msg ∈ xs.map Shp.id := by
  obtain ⟨i, hi⟩ := List.getElem?_of_mem hx
  obtain ⟨k, hk⟩ := List.getElem?_of_mem hf
  have h2 := (fldC_num (h.fld i x hi k f hk)).2
  rw [refBad, if_pos h8] at h2
  simp only [Bool.not_eq_false', hasId, List.any_eq_true] at h2
  obtain ⟨y, hy, e⟩ := h2
  simp only [beq_iff_eq] at e
  exact List.mem_map.2 ⟨y, hy, e⟩
def ifld (ids : List Int) (f : Fld) : Fld := ⟨f.number, f.kind, f.rep, f.packed, if f.kind = 8 then Lib.idxOf ids f.msg else -1⟩
theorem ifld_eq {xs : List Shp} (h : RawVal xs) {x : Shp} (hx : x ∈ xs) {f : Fld} (hf : f ∈ x.flds) : ifld (sortI (xs.map Shp.id)) f = cfld xs f := by
  unfold ifld cfld
  by_cases h8 : f.kind = 8
  · rw [if_pos h8, if_pos h8, rank_idx h.nodup (h.ref hx hf h8), rankS_eq]
  · rw [if_neg h8, if_neg h8]
def NumLe (f g : Fld) : Prop := f.number ≤ g.number
theorem putF_perm : ∀ (l : List Fld) (f : Fld), (putF l f).Perm (f :: l)
  | [], f => .refl _
  | g :: gs, f => by
    unfold putF
    split
    · exact ((putF_perm gs f).cons g).trans (.swap f g gs)
    · exact .refl _
theorem putF_sorted : ∀ {l : List Fld} {f : Fld}, l.Pairwise NumLe → (putF l f).Pairwise NumLe
  | [], f, _ => by simp [putF]
  | g :: gs, f, h => by
    have hc := List.pairwise_cons.1 h
    unfold putF
    split
    · rename_i hlt
      rw [List.pairwise_cons]
      refine ⟨fun y hy => ?_, putF_sorted hc.2⟩
      rcases List.mem_cons.1 ((putF_perm gs f).mem_iff.1 hy) with rfl | hy
      · unfold NumLe; omega
      · exact hc.1 y hy
    · rename_i hge
      rw [List.pairwise_cons]
      refine ⟨fun y hy => ?_, h⟩
      rcases List.mem_cons.1 hy with rfl | hy
      · unfold NumLe; omega
      · have := hc.1 y hy; unfold NumLe at this ⊢; omega
theorem cflds_perm (xs : List Shp) : ∀ (fs l : List Fld), (cflds xs l fs).Perm (l ++ fs.map (cfld xs))
  | [], l => by simp [cflds]
  | f :: fs, l => by
    rw [cflds, List.map_cons]
    refine (cflds_perm xs fs _).trans ?_
    refine ((putF_perm l (cfld xs f)).append_right _).trans ?_
    simpa using List.perm_middle.symm
theorem cflds_sorted (xs : List Shp) : ∀ (fs : List Fld) {l : List Fld}, l.Pairwise NumLe → (cflds xs l fs).Pairwise NumLe
  | [], l, h => h
  | f :: fs, l, h => cflds_sorted xs fs (putF_sorted h)
theorem sorted_fields {xs : List Shp} (h : RawVal xs) {x : Shp} (hx : x ∈ xs) {d : List Fld} (hp : d.Perm (x.flds.map (ifld (sortI (xs.map Shp.id))))) (hs : d.Pairwise NumLe) : d = cflds xs [] x.flds := by
  have e : x.flds.map (ifld (sortI (xs.map Shp.id))) = x.flds.map (cfld xs) := List.map_congr_left fun f hf => ifld_eq h hx hf
  rw [e] at hp
  have hq := cflds_perm xs x.flds []
  rw [List.nil_append] at hq
  refine List.Perm.eq_of_pairwise (le := NumLe) ?_ hs (cflds_sorted xs x.flds .nil) (hp.trans hq.symm)
  intro a b ha hb h1 h2
  obtain ⟨f, hf, rfl⟩ := List.mem_map.1 (hp.mem_iff.1 ha)
  obtain ⟨g, hg, rfl⟩ := List.mem_map.1 (hq.mem_iff.1 hb)
  have : f = g := h.inj hx f hf g hg (by unfold NumLe cfld at h1 h2; simp only at h1 h2; omega)
  rw [this]
theorem cgo_keep {xs : List Shp} {k : Nat} : ∀ {rest ys : List Shp}, (∀ z ∈ rest, rankS xs z.id ≠ k) → (cgo xs ys rest)[k]? = ys[k]?
  | [], ys, _ => rfl
  | z :: rest, ys, h => by
    rw [cgo, cgo_keep fun y hy => h y (List.mem_cons_of_mem _ hy), List.getElem?_set_ne (h z (List.mem_cons_self ..))]
theorem cgo_at {xs : List Shp} {x : Shp} : ∀ {rest ys : List Shp}, x ∈ rest → (∀ z ∈ rest, rankS xs z.id = rankS xs x.id → z = x) → rankS xs x.id < ys.length → (cgo xs ys rest)[rankS xs x.id]? = some ⟨x.id, cflds xs [] x.flds⟩
  | z :: rest, ys, hx, hi, hl => by
    rw [cgo]
    by_cases hr : x ∈ rest
    · exact cgo_at hr (fun y hy => hi y (List.mem_cons_of_mem _ hy)) (by rw [List.length_set]; exact hl)
    · rcases List.mem_cons.1 hx with rfl | hx'
      · rw [cgo_keep fun y hy e => hr (hi y (List.mem_cons_of_mem _ hy) e ▸ hy), List.getElem?_set_self hl]
      · exact absurd hx' hr
theorem compS_at {xs : List Shp} (h : RawVal xs) {k : Nat} {z : Int} (hz : (sortI (xs.map Shp.id))[k]? = some z) : ∃ x ∈ xs, x.id = z ∧ (compS xs)[k]? = some ⟨z, cflds xs [] x.flds⟩ := by
  obtain ⟨x, hx, rfl⟩ := List.mem_map.1 ((sortI_perm _).mem_iff.1 (List.mem_of_getElem? hz))
  refine ⟨x, hx, rfl, ?_⟩
  have hk : rankS xs x.id = k := by rw [rankS_eq]; exact rankI_at h.nodup hz
  have := cgo_at (xs := xs) (x := x) (rest := xs) (ys := List.replicate xs.length ⟨0, []⟩) hx (fun y hy e => by
    obtain ⟨j, hj⟩ := List.getElem?_of_mem ((sortI_perm (xs.map Shp.id)).mem_iff.2 (List.mem_map_of_mem (f := Shp.id) hy))
    have h1 := rankI_at h.nodup hj
    rw [← rankS_eq, e, hk] at h1
    subst h1
    rw [hz] at hj
    have e2 : x.id = y.id := Option.some.inj hj
    obtain ⟨p, hp⟩ := List.getElem?_of_mem hy
    obtain ⟨q, hq⟩ := List.getElem?_of_mem hx
    have hn := h.nodup
    rw [List.nodup_iff_pairwise_ne, List.pairwise_iff_getElem] at hn
    obtain ⟨hpl, hpe⟩ := List.getElem?_eq_some_iff.1 hp
    obtain ⟨hql, hqe⟩ := List.getElem?_eq_some_iff.1 hq
    rcases Nat.lt_trichotomy p q with hlt | rfl | hlt
    · exact (hn p q (by simpa using hpl) (by simpa using hql) hlt (by simp only [List.getElem_map, hpe, hqe, e2])).elim
    · rw [hp] at hq; exact Option.some.inj hq
    · exact (hn q p (by simpa using hql) (by simpa using hpl) hlt (by simp only [List.getElem_map, hpe, hqe, e2])).elim) (by rw [List.length_replicate]; exact rank_lt hx)
  rw [hk] at this
  exact this
theorem shpsOk_lt {m : Int} : ∀ {xs : List Shp} {b : Int}, shpsOk m b xs = true → ∀ x ∈ xs, b < x.id
  | [], b, h, x, hx => by cases hx
  | y :: ys, b, h, x, hx => by
    rw [shpsOk, Bool.and_eq_true, Bool.and_eq_true] at h
    obtain ⟨h1, h2, h3⟩ := h
    have hb : b < y.id := by simp [shpHead] at h1; omega
    rcases List.mem_cons.1 hx with rfl | hx
    · exact hb
    · have := shpsOk_lt h3 x hx; omega
theorem shpsOk_at {m : Int} : ∀ {xs : List Shp} {b : Int} {i k : Nat} {x : Shp}, shpsOk m b xs = true → xs[i]? = some x → shAt x.id k xs = (k + i : Nat) ∧ fldsOk m 0 x.flds = true
  | [], b, i, k, x, h, hx => by simp at hx
  | y :: ys, b, 0, k, x, h, hx => by
    rw [shpsOk, Bool.and_eq_true, Bool.and_eq_true] at h
    simp at hx; subst hx
    rw [shAt, if_pos rfl]
    exact ⟨by simp, h.2.1⟩
  | y :: ys, b, i + 1, k, x, h, hx => by
    rw [shpsOk, Bool.and_eq_true, Bool.and_eq_true] at h
    obtain ⟨h1, h2, h3⟩ := h
    simp at hx
    have hlt := shpsOk_lt h3 x (List.mem_of_getElem? hx)
    obtain ⟨e1, e2⟩ := shpsOk_at (k := k + 1) h3 hx
    rw [shAt, if_neg (by omega), e1]
    exact ⟨by congr 1; omega, e2⟩
theorem fldsOk_lt {m : Int} : ∀ {fs : List Fld} {b : Int}, fldsOk m b fs = true → ∀ f ∈ fs, b < f.number
  | [], b, h, x, hx => by cases hx
  | y :: ys, b, h, x, hx => by
    rw [fldsOk, Bool.and_eq_true, Bool.and_eq_true] at h
    obtain ⟨⟨h1, h2⟩, h3⟩ := h
    have hb := of_decide_eq_true h2
    rcases List.mem_cons.1 hx with rfl | hx
    · exact hb
    · have := fldsOk_lt h3 x hx; omega
theorem fldsOk_at {m : Int} : ∀ {fs : List Fld} {b : Int} {k : Nat} {f : Fld}, fldsOk m b fs = true → fs[k]? = some f → fAt f.number fs = (f, true) ∧ fldOk m f = true
  | [], b, k, f, h, hx => by simp at hx
  | y :: ys, b, 0, f, h, hx => by
    rw [fldsOk, Bool.and_eq_true, Bool.and_eq_true] at h
    simp at hx; subst hx
    rw [fAt, if_pos rfl]
    exact ⟨rfl, h.1.1⟩
  | y :: ys, b, k + 1, f, h, hx => by
    rw [fldsOk, Bool.and_eq_true, Bool.and_eq_true] at h
    obtain ⟨⟨h1, h2⟩, h3⟩ := h
    simp at hx
    have hlt := fldsOk_lt h3 f (List.mem_of_getElem? hx)
    obtain ⟨e1, e2⟩ := fldsOk_at h3 hx
    rw [fAt, if_neg (by omega), e1]
    exact ⟨rfl, e2⟩
theorem schOk_shAt {xs : List Shp} {i : Nat} {x : Shp} (h : schOk xs = true) (hx : xs[i]? = some x) : shAt x.id 0 xs = (i : Nat) := by
  rw [schOk, Bool.and_eq_true] at h
  have := (shpsOk_at (k := 0) h.2 hx).1
  rw [this]; congr 1; omega
theorem schOk_fieldAt {xs : List Shp} {i k : Nat} {x : Shp} {f : Fld} (h : schOk xs = true) (hx : xs[i]? = some x) (hf : x.flds[k]? = some f) : fieldAt xs i f.number = (f, true) := by
  rw [schOk, Bool.and_eq_true] at h
  have h1 := (shpsOk_at (k := 0) h.2 hx).2
  have hi := (List.getElem?_eq_some_iff.1 hx).1
  rw [fieldAt, if_pos (by simp [inB]; omega)]
  simp only [Int.toNat_natCast, hx, Option.map_some, Option.getD_some]
  exact (fldsOk_at h1 hf).1
theorem fldsOk_mk {m : Int} : ∀ {fs : List Fld} {b : Int}, fs.Pairwise (fun f g => f.number < g.number) → (∀ f ∈ fs, b < f.number ∧ fldOk m f = true) → fldsOk m b fs = true
  | [], b, _, _ => rfl
  | f :: fs, b, hp, h => by
    have hc := List.pairwise_cons.1 hp
    obtain ⟨h1, h2⟩ := h f (List.mem_cons_self ..)
    rw [fldsOk, h2, decide_eq_true h1, fldsOk_mk hc.2 fun g hg => ⟨hc.1 g hg, (h g (List.mem_cons_of_mem _ hg)).2⟩]
    rfl
theorem shpsOk_mk {m : Int} : ∀ {xs : List Shp} {b : Int}, (xs.map Shp.id).Pairwise (· < ·) → (∀ x ∈ xs, b < x.id ∧ x.id ≤ 99 ∧ x.flds.length ≤ 8 ∧ fldsOk m 0 x.flds = true) → shpsOk m b xs = true
  | [], b, _, _ => rfl
  | x :: xs, b, hp, h => by
    rw [List.map_cons] at hp
    have hc := List.pairwise_cons.1 hp
    obtain ⟨h1, h2, h3, h4⟩ := h x (List.mem_cons_self ..)
    rw [shpsOk, h4, shpHead, decide_eq_true h1, decide_eq_true h2, decide_eq_true h3, shpsOk_mk hc.2 fun y hy => ?_]
    · rfl
    · obtain ⟨_, k2, k3, k4⟩ := h y (List.mem_cons_of_mem _ hy)
      exact ⟨hc.1 y.id (List.mem_map_of_mem hy), k2, k3, k4⟩
theorem comp_at {xs : List Shp} (h : RawVal xs) {x : Shp} (hx : x ∈ xs) : (compS xs)[rankS xs x.id]? = some ⟨x.id, cflds xs [] x.flds⟩ := by
  obtain ⟨k, hk⟩ := List.getElem?_of_mem ((sortI_perm _).mem_iff.2 (List.mem_map_of_mem (f := Shp.id) hx))
  have hr := rankI_at h.nodup hk
  rw [rankS_eq, hr]
  obtain ⟨y, hy, hyi, hc⟩ := compS_at h hk
  have : y = x := by
    obtain ⟨p, hp⟩ := List.getElem?_of_mem hy
    obtain ⟨q, hq⟩ := List.getElem?_of_mem hx
    have hn := h.nodup
    rw [List.nodup_iff_pairwise_ne, List.pairwise_iff_getElem] at hn
    obtain ⟨hpl, hpe⟩ := List.getElem?_eq_some_iff.1 hp
    obtain ⟨hql, hqe⟩ := List.getElem?_eq_some_iff.1 hq
    rcases Nat.lt_trichotomy p q with hlt | rfl | hlt
    · exact (hn p q (by simpa using hpl) (by simpa using hql) hlt (by simp only [List.getElem_map, hpe, hqe, hyi])).elim
    · rw [hp] at hq; exact Option.some.inj hq
    · exact (hn q p (by simpa using hql) (by simpa using hpl) hlt (by simp only [List.getElem_map, hpe, hqe, hyi])).elim
  subst this
  exact hc
theorem comp_mem {xs : List Shp} (h : RawVal xs) {y : Shp} (hy : y ∈ compS xs) : ∃ x ∈ xs, y = ⟨x.id, cflds xs [] x.flds⟩ := by
  obtain ⟨k, hk⟩ := List.getElem?_of_mem hy
  obtain ⟨hkl, _⟩ := List.getElem?_eq_some_iff.1 hk
  rw [compS_len] at hkl
  have hkz : k < (sortI (xs.map Shp.id)).length := by rw [sortI_len, List.length_map]; exact hkl
  obtain ⟨x, hx, hxi, hc⟩ := compS_at h (List.getElem?_eq_getElem hkz)
  rw [hk] at hc
  obtain rfl := Option.some.inj hc
  exact ⟨x, hx, by rw [hxi]⟩
theorem comp_ids {xs : List Shp} (h : RawVal xs) : (compS xs).map Shp.id = sortI (xs.map Shp.id) := by
  apply List.ext_getElem?
  intro k
  by_cases hk : k < xs.length
  · have hkz : k < (sortI (xs.map Shp.id)).length := by rw [sortI_len, List.length_map]; exact hk
    obtain ⟨x, hx, hxi, hc⟩ := compS_at h (List.getElem?_eq_getElem hkz)
    rw [List.getElem?_map, hc, List.getElem?_eq_getElem hkz]; rfl
  · rw [List.getElem?_eq_none (by rw [List.length_map, compS_len]; omega), List.getElem?_eq_none (by rw [sortI_len, List.length_map]; omega)]
theorem cfld_mem {xs : List Shp} {fs : List Fld} {g : Fld} : g ∈ cflds xs [] fs ↔ ∃ f ∈ fs, cfld xs f = g := by
  rw [(cflds_perm xs fs []).mem_iff, List.nil_append, List.mem_map]
theorem RawVal.nums {xs : List Shp} (h : RawVal xs) {x : Shp} (hx : x ∈ xs) : (cflds xs [] x.flds).Pairwise (fun f g => f.number < g.number) := by
  obtain ⟨i, hi⟩ := List.getElem?_of_mem hx
  have h1 : (x.flds.map Fld.number).Nodup := by
    rw [List.nodup_iff_pairwise_ne, List.pairwise_iff_getElem]
    intro j k hj hk hjk e
    rw [List.length_map] at hj hk
    simp only [List.getElem_map] at e
    have h2 := (fldC_num (h.fld i x hi k x.flds[k] (List.getElem?_eq_getElem hk))).1
    rw [hasNum, List.any_eq_false] at h2
    have := h2 x.flds[j] (List.mem_of_getElem? (i := j) (by rw [List.getElem?_take]; simp [hjk, List.getElem?_eq_getElem hj]))
    simp [e] at this
  have h2 : ((cflds xs [] x.flds).map Fld.number).Nodup := by
    have hp := (cflds_perm xs x.flds []).map Fld.number
    rw [List.nil_append, List.map_map] at hp
    exact hp.nodup_iff.2 h1
  have h3 : (cflds xs [] x.flds).Pairwise (fun f g => f.number ≠ g.number) := by
    rw [List.nodup_iff_pairwise_ne] at h2
    exact List.pairwise_map.1 h2
  exact ((cflds_sorted xs x.flds .nil).and h3).imp (by rintro a b ⟨h, h'⟩; unfold NumLe at h; omega)
theorem cfld_ok {xs : List Shp} (h : RawVal xs) {x : Shp} (hx : x ∈ xs) {f : Fld} (hf : f ∈ x.flds) : fldOk xs.length (cfld xs f) = true := by
  obtain ⟨i, hi⟩ := List.getElem?_of_mem hx
  obtain ⟨k, hk⟩ := List.getElem?_of_mem hf
  have hc := h.fld i x hi k f hk
  unfold fldC at hc
  split at hc
  · simp at hc
  rename_i h1
  split at hc
  · simp at hc
  split at hc
  · simp at hc
  rename_i h3
  split at hc
  · simp at hc
  rename_i h4
  have e1 : numOk f.number = true := by simpa using h1
  have e3 : inB f.kind 1 8 = true := by simpa using h3
  have e4 : packOk f = true := by simpa using h4
  have e5 : msgOk xs.length (cfld xs f) = true := by
    rw [msgOk]
    by_cases h8 : f.kind = 8
    · rw [if_pos (show (cfld xs f).kind = 8 from h8)]
      obtain ⟨y, hy, hyi⟩ := List.mem_map.1 (h.ref hx hf h8)
      have := rank_lt (xs := xs) hy
      rw [hyi] at this
      simp only [cfld, if_pos h8, inB, Bool.and_eq_true, decide_eq_true_eq]
      omega
    · rw [if_neg (show ¬ (cfld xs f).kind = 8 from h8)]
      simp [cfld, if_neg h8]
  rw [fldOk, show numOk (cfld xs f).number = true from e1, show inB (cfld xs f).kind 1 8 = true from e3, show packOk (cfld xs f) = true from e4, e5]; rfl
theorem comp_ok {xs : List Shp} (h : RawVal xs) : schOk (compS xs) = true := by
  have hl := compS_len xs
  rw [schOk, hl, decide_eq_true h.n, Bool.true_and]
  refine shpsOk_mk (by rw [comp_ids h]; exact sortI_lt h.nodup) fun y hy => ?_
  obtain ⟨x, hx, rfl⟩ := comp_mem h hy
  obtain ⟨i, hi⟩ := List.getElem?_of_mem hx
  have hid := (msgC_id (h.msg i x hi)).1
  simp only [inB, Bool.and_eq_true, decide_eq_true_eq] at hid
  refine ⟨by simp only; omega, hid.2, by simp only [cflds_len]; have := h.len hx; simp; omega, fldsOk_mk (h.nums hx) fun g hg => ?_⟩
  obtain ⟨f, hf, rfl⟩ := cfld_mem.1 hg
  have hok := cfld_ok h hx hf
  refine ⟨?_, hok⟩
  simp only [fldOk, numOk, inB, Bool.and_eq_true, decide_eq_true_eq] at hok
  omega
theorem comp_shAt {xs : List Shp} (h : RawVal xs) {x : Shp} (hx : x ∈ xs) : shAt x.id 0 (compS xs) = (rankS xs x.id : Nat) :=
  schOk_shAt (x := ⟨x.id, cflds xs [] x.flds⟩) (comp_ok h) (comp_at h hx)
theorem comp_fieldAt {xs : List Shp} (h : RawVal xs) {x : Shp} (hx : x ∈ xs) {f : Fld} (hf : f ∈ x.flds) : fieldAt (compS xs) (rankS xs x.id : Nat) f.number = (cfld xs f, true) := by
  obtain ⟨k, hk⟩ := List.getElem?_of_mem (cfld_mem.2 ⟨f, hf, rfl⟩ : cfld xs f ∈ cflds xs [] x.flds)
  exact schOk_fieldAt (comp_ok h) (comp_at h hx) hk
theorem fAt_has (n : Int) : ∀ (fs : List Fld), (fAt n fs).2 = hasNum fs n
  | [] => rfl
  | f :: fs => by
    rw [fAt, hasNum, List.any_cons]
    by_cases h : f.number = n
    · rw [if_pos h]; simp [h]
    · rw [if_neg h, fAt_has n fs, hasNum]; simp [h]
theorem comp_known {xs : List Shp} (h : RawVal xs) {x : Shp} (hx : x ∈ xs) (n : Int) : (fieldAt (compS xs) (rankS xs x.id : Nat) n).2 = hasNum x.flds n := by
  have hr := rank_lt (xs := xs) hx
  rw [fieldAt, compS_len, if_pos (by simp [inB]; omega)]
  simp only [Int.toNat_natCast, comp_at h hx, Option.map_some, Option.getD_some]
  rw [fAt_has, Bool.eq_iff_iff, hasNum, hasNum, List.any_eq_true, List.any_eq_true]
  constructor
  · rintro ⟨g, hg, e⟩
    obtain ⟨f, hf, rfl⟩ := cfld_mem.1 hg
    exact ⟨f, hf, e⟩
  · rintro ⟨f, hf, e⟩
    exact ⟨cfld xs f, cfld_mem.2 ⟨f, hf, rfl⟩, e⟩
theorem comp_ref {xs : List Shp} (h : RawVal xs) {x : Shp} (hx : x ∈ xs) {f : Fld} (hf : f ∈ x.flds) (h8 : f.kind = 8) : ∃ y, (cfld xs f).msg = (rankS xs f.msg : Nat) ∧ rankS xs f.msg < xs.length ∧ (compS xs)[rankS xs f.msg]? = some y ∧ y.id = f.msg := by
  obtain ⟨y, hy, hyi⟩ := List.mem_map.1 (h.ref hx hf h8)
  have h1 := rank_lt (xs := xs) hy
  have h2 := comp_at h hy
  rw [hyi] at h1 h2
  exact ⟨_, by simp only [cfld, if_pos h8], h1, h2, rfl⟩
end Go.Proofs.Ytbpilecgnfnndaa
namespace Go.Proofs.Ytbpilecgnfnndaa
set_option linter.unusedSimpArgs false
set_option linter.unusedVariables false
open Go.ChangeShapes Go.WideShapes Go.ChangeAt Go.RowKit Go.BigFrame Go.Sort
theorem holdsV {w : World} {g : Nat} {cur L : Array Value} {e : TypeId} (hb : w.heap[g]? = some (.cells cur e (0, 0))) (ht : cur.toList.take L.size = L.toList) : Holds id w g 0 L := by
  intro j hj
  refine ⟨?_, by simp [World.frozen?, hb]⟩
  have h1 : (cur.toList.take L.size)[j]? = L.toList[j]? := by rw [ht]
  rw [List.getElem?_take_of_lt hj, Array.getElem?_toList, Array.getElem?_toList] at h1
  rw [Array.getElem?_eq_getElem hj] at h1
  simp [World.cell?, hb, h1, getElem!_pos L j hj]
theorem heapV {α : Type} [Inhabited α] (enc : α → Value) {w : World} {g n : Nat} {os : Array Obj} {cur : Array Value} {e : TypeId} {fr : Nat × Nat} (d : Array α) (hb : w.heap[g]? = some (.cells cur e fr)) :
    (grow (putRow enc (Sort.ahead w n) g 0 d) os).heap[g]? = some (.cells (putCells enc 0 d cur) e fr) := by
  have hg : g < w.heap.size := (Array.getElem?_eq_some_iff.1 hb).1
  rw [heap_grow_old _ _ (by simpa using hg)]
  simp [putRow, mapBlock, Sort.ahead, Array.getElem?_modify, hb, onCells]
theorem grownV {α : Type} [Inhabited α] (enc : α → Value) {w : World} {g n : Nat} {os : Array Obj} (d : Array α) : w.grownBy (grow (putRow enc (Sort.ahead w n) g 0 d) os) (some g) := by
  refine ⟨rfl, rfl, rfl, by simp, fun k hk hne => ?_⟩
  rw [heap_grow_old _ _ (by simpa using hk)]
  have : g ≠ k := fun e => hne (by rw [e])
  simp [putRow, mapBlock, Sort.ahead, Array.getElem?_modify, this]
theorem takeV (cur L : Array Value) (h : L.size ≤ cur.size) : (putCells id 0 L cur).toList.take L.size = L.toList := by
  apply List.ext_getElem?
  intro j
  by_cases hj : j < L.size
  · rw [List.getElem?_take_of_lt hj, Array.getElem?_toList, Array.getElem?_toList]
    simp only [putCells, Array.getElem?_mapIdx]
    rw [Array.getElem?_eq_getElem (show j < cur.size by omega), Array.getElem?_eq_getElem hj]
    simp [hj]
  · rw [List.getElem?_eq_none (by simp; omega), List.getElem?_eq_none (by simp; omega)]
theorem ownV {w : World} {base g cap n k sz : Nat} {e : TypeId} {os : Array Obj} {cur L : Array Value} (hl : L.size = n * sz) (hbase : base ≤ g) (hb : w.heap[g]? = some (.cells cur e (0, 0)))
    (h1 : n ≤ cap) (h2 : cap ≤ maxLen) (h3 : cur.size = cap * sz) :
    (grow (putRow id (Sort.ahead w k) g 0 L) os).ownsRow base e sz (.slice (some ⟨g, 0, none⟩) n cap) n L.toList :=
  ⟨by simpa using hl, .inr ⟨g, cap, _, rfl, hbase, heapV _ _ hb, h1, h2, by simp [putCells, h3], by rw [← hl]; exact takeV cur L (by rw [hl, h3]; exact Nat.mul_le_mul_right _ h1)⟩⟩
instance : Inhabited Fld := ⟨zeroF⟩
theorem flat_flds (fs : List Fld) : (flatK Fld.cs 5 fs.toArray).toList = fs.flatMap Fld.cs := by
  apply List.ext_getElem?
  intro t
  by_cases ht : t < fs.length * 5
  · have h5 : t / 5 < fs.length := by omega
    rw [Array.getElem?_toList]
    have hs : t < (flatK Fld.cs 5 fs.toArray).size := by simpa using ht
    rw [Array.getElem?_eq_getElem hs, ← getElem!_pos _ t hs, get_flatK _ _ _ _ (by simpa using ht)]
    have he : fs.toArray[t / 5]! = fs[t / 5] := by rw [getElem!_pos _ _ (by simpa using h5)]; simp
    rw [he]
    have hm : t % 5 < (fs[t / 5]).cs.length := by rw [fld_len]; omega
    have := flatMap_at fld_len fs (t / 5) (t % 5) fs[t / 5] (List.getElem?_eq_getElem h5) (by omega)
    rw [show t / 5 * 5 + t % 5 = t by omega] at this
    rw [this, getElem!_pos (fs[t / 5]).cs (t % 5) hm, List.getElem?_eq_getElem hm]
  · have h1 : (fs.flatMap Fld.cs).length = fs.length * 5 := by
      clear ht
      induction fs with
      | nil => rfl
      | cons f fs ih => rw [List.flatMap_cons, List.length_append, ih, fld_len, List.length_cons]; omega
    rw [List.getElem?_eq_none (by simp; omega), List.getElem?_eq_none (by omega)]
def numC (f g : Fld) : Int := Lib.compareInt f.number g.number
theorem perm_list {fs : List Fld} {d' : Array Fld} (h : PermIn 0 fs.toArray.size fs.toArray d') : d'.toList.Perm fs := by
  have := h.2.2
  rw [← h.1] at this
  rw [Array.extract_size] at this
  rw [h.1, Array.extract_size] at this
  exact this
theorem numC_lt (f g : Fld) : ltOf numC f g = decide (f.number < g.number) := by
  unfold ltOf numC Lib.compareInt
  by_cases h1 : f.number < g.number
  · simp [h1]
  · by_cases h2 : f.number > g.number
    · simp [h1, h2]
    · simp [h1, h2]
theorem numC_swo : SWO (ltOf numC) where
  irrefl x := by simp [numC_lt]
  trans x y z h1 h2 := by simp only [numC_lt, decide_eq_true_eq] at *; omega
  ntrans x y z h1 h2 := by simp only [numC_lt, decide_eq_false_iff_not] at *; omega
theorem sorted_list {d' : Array Fld} (h : SortedIn (ltOf numC) 0 d'.size d') : d'.toList.Pairwise NumLe := by
  rw [List.pairwise_iff_getElem]
  intro i j hi hj hij
  have hi' : i < d'.size := by simpa using hi
  have hj' : j < d'.size := by simpa using hj
  have := h i j (Nat.zero_le _) hij hj'
  rw [numC_lt, getElem!_pos d' j hj', getElem!_pos d' i hi'] at this
  simp only [decide_eq_false_iff_not] at this
  simp only [Array.getElem_toList, NumLe]
  omega
end Go.Proofs.Ytbpilecgnfnndaa

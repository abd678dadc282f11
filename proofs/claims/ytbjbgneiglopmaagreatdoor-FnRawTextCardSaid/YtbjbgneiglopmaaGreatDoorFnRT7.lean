/- Texts that FnRawText leans on, part 7. (Put together by wip/tools/bundle.py.) -/
import Derived.Deep.CutRange
import Derived.Test.YtbjbgneiglopmaaGreatDoorFnRT1
import Derived.Test.YtbjbgneiglopmaaGreatDoorFnRT2
import Derived.Test.YtbjbgneiglopmaaGreatDoorFnRT3
import Derived.Test.YtbjbgneiglopmaaGreatDoorFnRT6
namespace Go.Proofs.YtbjbgneiglopmaaGreatDoor
set_option linter.unusedSimpArgs false
set_option linter.unusedVariables false
open Go.ChangeShapes Go.WideShapes Go.ChangeAt Go.RowKit Go.BigFrame
theorem info_RawMsg6 : (Tryz.prog.info? 40).map (fun i => (i.zero, i.size, i.bytes)) = some (some (.agg #[.int .i64 0, .slice none 0 0]), 2, 32) := by kernel_rfl
theorem info_RawField6 : (Tryz.prog.info? 44).map (fun i => (i.zero, i.size, i.bytes)) = some (some (.agg #[.int .i64 0, .int .i64 0, .bool false, .bool false, .int .i64 0]), 5, 32) := by kernel_rfl
theorem OwnShs.oth {w w' : World} {B base n : Nat} {T TF : TypeId} {v : Value} {rs : List ShR} {xs : List Shp} (h : OwnShs w base T TF v n rs xs) (ho : Oth B w w') (hB : B < base) : OwnShs w' base T TF v n rs xs :=
  ⟨h.len, h.lenx, owns_oth h.outer ho hB, fun k r x hr hx => ⟨(h.each k r x hr hx).1, (h.each k r x hr hx).2.1, owns_oth (h.each k r x hr hx).2.2 ho hB⟩, h.apart⟩
theorem range_fiveA {w : World} {B : Nat} {v0 v1 v2 v3 v4 : Value} {l : List (Addr × Value)} (h : Cells ((⟨B, 0, none⟩, v0) :: (⟨B, 1, none⟩, v1) :: (⟨B, 2, none⟩, v2) :: (⟨B, 3, none⟩, v3) :: (⟨B, 4, none⟩, v4) :: l) w) : w.rangeAt B 0 [v0, v1, v2, v3, v4] :=
  range_five fun q hq => h q (by simp only [List.mem_cons, List.not_mem_nil, or_false] at hq ⊢; rcases hq with h | h | h | h | h <;> simp [h])
@[reducible] def idL : List Int := [5, 1, 99]
def bare (k : Nat) : List Shp := (idL.take k).map fun i => ⟨i, []⟩
theorem bare_good {n : Nat} (h : n ≤ 3) : RawGood (idL.take n) 0 0 (bare n) := by
  have h0 : ∀ x ∈ bare n, x.flds = [] := fun x hx => by
    obtain ⟨i, _, rfl⟩ := List.mem_map.1 hx; rfl
  refine ⟨by simp [bare, Function.comp_def], fun j x hx => ?_, fun x hx => ?_⟩
  · rw [h0 x (List.mem_of_getElem? hx)]; exact Nat.zero_le _
  · rw [h0 x hx]; exact ⟨Dist.nil, fun f hf => by cases hf⟩
def Mid6 (w : World) (B k q p cap : Nat) (a : Option Addr) (T TF TR : TypeId) (F : Nat) (f : Fld) (wx : World) : Prop :=
  (∃ rs xs, OwnShs wx (w.heap.size + 1 + 1) T TF (.slice a k cap) k rs xs ∧ RawGood (idL.take k) q p xs ∧ (∀ r ∈ rs, ∀ g, (Value.slice r.a r.n r.cap).ownBlock = some g → g ≠ F) ∧ (∀ g, (Value.slice a k cap).ownBlock = some g → g ≠ F)) ∧ wx.heap[w.heap.size + 1]? = some (.cells #[.slice a k cap] TR (0, 0)) ∧ wx.heap[w.heap.size]? = some (.cells #[.slice none 0 0] TR (0, 0)) ∧ wx.heap[F]? = some (.cells #[.int .i64 f.number, .int .i64 f.kind, .bool f.rep, .bool f.packed, .int .i64 f.msg] TF (0, 0)) ∧ w.heap.size + 1 < F ∧ Up B w wx
theorem Mid6.step {w : World} {B k q p cap : Nat} {a : Option Addr} {T TF TR : TypeId} {F : Nat} {f : Fld} {wx wy : World} (h : Mid6 w B k q p cap a T TF TR F f wx) (hB : B < w.heap.size) (hc : Cur wy B) (ho : Oth B wx wy) : Mid6 w B k q p cap a T TF TR F f wy := by
  obtain ⟨⟨rs, xs, h1, h2, h3, h4⟩, hO, hR, hF, hlt, hu⟩ := h
  exact ⟨⟨rs, xs, h1.oth ho (by omega), h2, h3, h4⟩, (ho.block (box_lt hO) (by omega)).trans hO, (ho.block (box_lt hR) (by omega)).trans hR, (ho.block (box_lt hF) (by omega)).trans hF, hlt, hu.step hc ho⟩
theorem Mid6.below {w : World} {B k q p cap : Nat} {a : Option Addr} {T TF TR : TypeId} {F : Nat} {f : Fld} {wx wy : World} (h : Mid6 w B k q p cap a T TF TR F f wx) (hB : B < w.heap.size) (hb : Below wx.heap.size wx wy) : Mid6 w B k q p cap a T TF TR F f wy := by
  obtain ⟨⟨rs, xs, h1, h2, h3, h4⟩, hO, hR, hF, hlt, hu⟩ := h
  have := hu.oth.size
  exact ⟨⟨rs, xs, h1.below hb (Nat.le_refl _), h2, h3, h4⟩, (hb.block _ (box_lt hO)).trans hO, (hb.block _ (box_lt hR)).trans hR, (hb.block _ (box_lt hF)).trans hF, hlt, hu.below hB hb this⟩
theorem OwnShs.apartCell {w w' : World} {base n F : Nat} {T TF : TypeId} {v : Value} {rs : List ShR} {xs : List Shp} (h : OwnShs w base T TF v n rs xs) (h1 : ∀ r ∈ rs, ∀ g, (Value.slice r.a r.n r.cap).ownBlock = some g → g ≠ F) (h2 : ∀ g, v.ownBlock = some g → g ≠ F) (hg : w.grownBy w' (some F)) : OwnShs w' base T TF v n rs xs :=
  ⟨h.len, h.lenx, h.outer.kept hg (.inr fun e => h2 _ e rfl), fun k r x hr hx => ⟨(h.each k r x hr hx).1, (h.each k r x hr hx).2.1, (h.each k r x hr hx).2.2.kept hg (.inr fun e => h1 r (List.mem_of_getElem? hr) _ e rfl)⟩, h.apart⟩
theorem Mid6.set {w : World} {B k q p cap : Nat} {a : Option Addr} {T TF TR : TypeId} {F : Nat} {f f' : Fld} {wx : World} (h : Mid6 w B k q p cap a T TF TR F f wx) (hB : B < w.heap.size) (o : Nat) (u : Value)
    (hf : (#[.int .i64 f.number, .int .i64 f.kind, .bool f.rep, .bool f.packed, .int .i64 f.msg] : Array Value).setIfInBounds o u = #[.int .i64 f'.number, .int .i64 f'.kind, .bool f'.rep, .bool f'.packed, .int .i64 f'.msg]) : Mid6 w B k q p cap a T TF TR F f' (wx.setCell ⟨F, o, none⟩ u) := by
  obtain ⟨⟨rs, xs, h1, h2, h3, h4⟩, hO, hR, hF, hlt, hu⟩ := h
  have hg : wx.grownBy (wx.setCell ⟨F, o, none⟩ u) (some F) := (Oth.refl F wx).setCell (o := o) u
  refine ⟨⟨rs, xs, h1.apartCell h3 h4 hg, h2, h3, h4⟩, hset_other hO (by simp; omega), hset_other hR (by simp; omega), ?_, hlt, hu.below hB ((Below.refl F _).setCell (Nat.le_refl _) _) (by omega)⟩
  apply hset_eq (hset_set hF)
  rw [hf]
theorem Mid6.mk {w : World} {B k q p cap : Nat} {a : Option Addr} {T TF TR : TypeId} {f : Fld} {wx : World} {rs : List ShR} {xs : List Shp} (hB : B < w.heap.size) (h1 : OwnShs wx (w.heap.size + 1 + 1) T TF (.slice a k cap) k rs xs) (h2 : RawGood (idL.take k) q p xs) (hO : wx.heap[w.heap.size + 1]? = some (.cells #[.slice a k cap] TR (0, 0))) (hR : wx.heap[w.heap.size]? = some (.cells #[.slice none 0 0] TR (0, 0))) (hu : Up B w wx) :
    Mid6 w B k q p cap a T TF TR wx.heap.size f (wx.alloc (.cells #[.int .i64 f.number, .int .i64 f.kind, .bool f.rep, .bool f.packed, .int .i64 f.msg] TF)) := by
  refine ⟨⟨rs, xs, h1.alloc _, h2, fun r hr g e => ?_, fun g e => ?_⟩, hset_alloc hO, hset_alloc hR, hset_new rfl, box_lt hO, hu.alloc hB _⟩
  · obtain ⟨i, hi, hie⟩ := List.getElem_of_mem hr
    have hri : rs[i]? = some r := by rw [List.getElem?_eq_getElem hi, hie]
    obtain ⟨x, hx, -⟩ := at_lt (xs := xs) (k := i) (by rw [h1.lenx, ← h1.len]; exact hi)
    have := ((h1.each i r x hri hx).2.2.lt g e).2
    omega
  · have := (h1.outer.lt g e).2
    omega
def DrawnRaw (B : Nat) (w : World) (r : Ending) (w' : World) : Prop :=
  ∃ a n cap rs xs i, r = .returned (.agg #[.slice a n cap]) ∧ OwnShs w' w.heap.size 40 44 (.slice a n cap) n rs xs ∧ 1 ≤ n ∧ n ≤ 3 ∧ RawGood (idL.take n) i 0 xs ∧ Up B w w'
set_option maxRecDepth 100000 in
set_option maxHeartbeats 4000000 in
theorem l6Right_any (B : Nat) (w : World) (hc : Cur w B) : Calls Tryz.prog 47 #[.pointer (some ⟨B, 0, none⟩)] w (DrawnRaw B w) := by
  obtain ⟨i0, hi, hj0, hj1, hj2⟩ := info_parts info_RawMsg6
  obtain ⟨i5, hi5, hk0, hk1, hk2⟩ := info_parts info_RawField6
  have hBl := hc.lt
  go_enter Tryz.func47, Tryz.ntmps47
  go_wp2_with fail
  refine (l1Below_any B 3 _ (hc.below (by ((repeat (first | (with_reducible exact Below.refl _ _) | (with_reducible assumption) | (with_reducible refine Below.alloc ?_ ?_ _) | (with_reducible refine Below.setCell ?_ ?_ _) | (with_reducible refine Below.drew ?_) | (with_reducible refine below_setRow ?_ ?_ _) | (refine Below.trans ?_ (Below.mono (by assumption) ?_)))); all_goals (first | omega | (simp; done) | (simp; omega))))) (by omega) (by omega)).mono ?_
  rintro r w1 ⟨x, rfl, hx0, hx1, hc1, ho1⟩
  obtain ⟨n, rfl⟩ : ∃ n : Nat, x = (n : Int) - 1 := ⟨(x + 1).toNat, by omega⟩
  have hn1 : 1 ≤ n := by omega
  have hn3 : n ≤ 3 := by omega
  have hR1 := (ho1.block (b := w.heap.size) (by simp; omega) (by omega)).trans (hset_alloc (hset_new (o := .cells #[.slice none 0 0] 24) rfl))
  have hO1 := (ho1.block (b := w.heap.size + 1) (by simp) (by omega)).trans (hset_new (o := .cells #[.slice none 0 0] 24) (by simp))
  have hu1 : Up B w w1 := ⟨hc1, (Oth.of_below (by ((repeat (first | (with_reducible exact Below.refl _ _) | (with_reducible assumption) | (with_reducible refine Below.alloc ?_ ?_ _) | (with_reducible refine Below.setCell ?_ ?_ _) | (with_reducible refine Below.drew ?_) | (with_reducible refine below_setRow ?_ ?_ _) | (refine Below.trans ?_ (Below.mono (by assumption) ?_)))); all_goals (first | omega | (simp; done) | (simp; omega))))).trans ho1⟩
  go_wp2_with fail
  have hnn : (1 : Int) + ((n : Int) - 1) = n := by omega
  rw [hnn]
  have HR1 := Lib.hid hR1; have HO1 := Lib.hid hO1; clear hR1 hO1 ho1 hc1 hx0 hx1
  go_loopw [5] (fun i wr => ∃ k : Nat, k ≤ n ∧ i = .int .i64 k ∧ (∃ v rs, OwnShs wr (w.heap.size + 1 + 1) 40 44 v k rs (bare k) ∧ wr.heap[w.heap.size + 1]? = some (.cells #[v] 24 (0, 0))) ∧ wr.heap[w.heap.size]? = some (.cells #[.slice none 0 0] 24 (0, 0)) ∧ Up B w wr) (fun i _ => n - (intOf i).toNat)
  case atStart => exact ⟨0, Nat.zero_le _, rfl, ⟨_, [], OwnShs.nil _ _ _ _, HO1.out⟩, HR1.out, hu1⟩
  case round =>
    obtain ⟨k, hk, rfl, ⟨v, rs, ho, hO⟩, hR, hu⟩ := hrel
    have hlO := box_lt hO; have hlR := box_lt hR; have kO := box_cells hO 0; have fO := box_frozen hO 0
    simp only [List.getElem?_toArray, List.getElem?_cons_zero] at kO
    have HO := Lib.hid hO; have HR := Lib.hid hR; have HS := Lib.hid ho; clear hO hR ho
    by_cases hlt : k < n
    · obtain ⟨id, hid, hcell⟩ : ∃ id : Int, bare (k + 1) = bare k ++ [⟨id, []⟩] ∧ (#[.int .i64 5, .int .i64 1, .int .i64 99, .int .i64 7] : Array Value)[k]? = some (.int .i64 id) := by
        have : k = 0 ∨ k = 1 ∨ k = 2 := by omega
        rcases this with rfl | rfl | rfl <;> exact ⟨_, rfl, rfl⟩
      have HID := Lib.hid hid; clear hid
      have hk4 : (k : Int) < 4 := by omega
      go_wp2_with fail
      refine wp_region_till (Cells [(⟨w.heap.size + 1, 0, none⟩, v)]) (fun i => decide (9 ≤ i)) (by kernel_rfl) ?_
      have hS : Cells [(⟨w.heap.size + 1, 0, none⟩, v)] wr.drew := cells_mk kO (cells_no _)
      refine wpTill_take (i := 0) (v := ?v0_1) rfl (by kernel_rfl) (by kernel_rfl) (by kernel_rfl) (by kernel_rfl) (fun _ _ _ h => h) (Or.inl ⟨by rfl, ?y0_1⟩) hS ?r0_1
      case y0_1 => (intro wq hq; (try simp only [cells_cons, cells_nil, and_true] at hq); first | (go_simp; done) | (go_simp; with_reducible rfl) | (obtain ⟨hq1, hq2⟩ := hq; go_simp; with_reducible rfl))
      try simp only [List.getElem_toArray, List.getElem_cons_succ, List.getElem_cons_zero, Act.put, List.setIfInBounds_toArray, List.set_cons_zero, List.set_cons_succ]
      refine wpTill_take (i := 1) (v := ?v1_2) rfl (by kernel_rfl) (by kernel_rfl) (by kernel_rfl) (by kernel_rfl) (fun _ _ _ h => h) (Or.inl ⟨by rfl, ?y1_2⟩) hS ?r1_2
      case y1_2 => (intro wq hq; (try simp only [cells_cons, cells_nil, and_true] at hq); first | (go_simp; done) | (go_simp; with_reducible rfl) | (obtain ⟨hq1, hq2⟩ := hq; go_simp; with_reducible rfl))
      try simp only [List.getElem_toArray, List.getElem_cons_succ, List.getElem_cons_zero, Act.put, List.setIfInBounds_toArray, List.set_cons_zero, List.set_cons_succ]
      refine wpTill_take (i := 3) (v := ?v3_3) rfl (by kernel_rfl) (by kernel_rfl) (by kernel_rfl) (by kernel_rfl) (fun _ _ _ h => h) (Or.inl ⟨by rfl, ?y3_3⟩) hS ?r3_3
      case y3_3 => (intro wq hq; (try simp only [cells_cons, cells_nil, and_true] at hq); first | (go_simp; done) | (go_simp; with_reducible rfl) | (obtain ⟨hq1, hq2⟩ := hq; go_simp; with_reducible rfl))
      try simp only [List.getElem_toArray, List.getElem_cons_succ, List.getElem_cons_zero, Act.put, List.setIfInBounds_toArray, List.set_cons_zero, List.set_cons_succ]
      refine wpTill_op (i := 2) (by kernel_rfl) rfl (fun K hK => ?_)
      go_simp
      refine hK.out _ _ (fun _ => (hS.alloc _).drew) ?_
      clear hK K
      try simp only [List.getElem_toArray, List.getElem_cons_succ, List.getElem_cons_zero, Act.put, List.setIfInBounds_toArray, List.set_cons_zero, List.set_cons_succ]
      refine wpTill_op (i := 4) (by kernel_rfl) rfl (fun K hK => ?_)
      go_simp
      refine hK.out _ _ (fun _ => (hS.alloc _).drew) ?_
      clear hK K
      try simp only [List.getElem_toArray, List.getElem_cons_succ, List.getElem_cons_zero, Act.put, List.setIfInBounds_toArray, List.set_cons_zero, List.set_cons_succ]
      have hkI := (box_cells (w := (wr.alloc (.cells #[.int .i64 5, .int .i64 1, .int .i64 99, .int .i64 7] 3)).drew) (hset_drew (hset_new rfl)) k).trans hcell
      refine wpTill_op (i := 5) (by kernel_rfl) rfl (fun K hK => ?_)
      go_simp
      refine hK.out _ _ (fun _ => (hS.alloc _).drew) ?_
      clear hK K
      try simp only [List.getElem_toArray, List.getElem_cons_succ, List.getElem_cons_zero, Act.put, List.setIfInBounds_toArray, List.set_cons_zero, List.set_cons_succ]
      refine wpTill_op (i := 6) (by kernel_rfl) rfl (fun K hK => ?_)
      go_simp
      refine hK.out _ _ (fun _ => (hS.alloc _).drew) ?_
      clear hK K
      try simp only [List.getElem_toArray, List.getElem_cons_succ, List.getElem_cons_zero, Act.put, List.setIfInBounds_toArray, List.set_cons_zero, List.set_cons_succ]
      refine wpTill_op (i := 7) (by kernel_rfl) rfl (fun K hK => ?_)
      go_simp
      refine hK.out _ _ (fun _ => ((hS.alloc _).alloc _).drew) ?_
      clear hK K
      try simp only [List.getElem_toArray, List.getElem_cons_succ, List.getElem_cons_zero, Act.put, List.setIfInBounds_toArray, List.set_cons_zero, List.set_cons_succ]
      obtain ⟨W, hW⟩ : ∃ W : World, W = ((wr.alloc (.cells #[.int .i64 5, .int .i64 1, .int .i64 99, .int .i64 7] 3)).alloc (.cells #[.int .i64 id, .slice none 0 0] 40)).drew := ⟨_, rfl⟩
      have hbW : Below wr.heap.size wr W := by rw [hW]; exact (((Below.refl _ _).alloc (Nat.le_refl _) _).alloc (by simp) _).drew
      have hWz : wr.heap.size + 1 < W.heap.size := by rw [hW]; simp
      have HA1 := Lib.hid (HS.out.below hbW (Nat.le_refl _))
      have HNW := Lib.hid (World.news_of_block (w := W) (cs := #[.int .i64 id, .slice none 0 0]) (t := 40) (fr := (0, 0)) (B := wr.heap.size + 1) (by rw [hW]; exact hset_drew (hset_new (by simp))))
      have hS7 : Cells [(⟨w.heap.size + 1, 0, none⟩, v)] W := by rw [hW]; exact ((hS.alloc _).alloc _).drew
      have hol := HA1.out.outer.lt
      refine wpTill_op (i := 8) (by kernel_rfl) rfl (fun K hK => ?_)
      rw [← hW]
      refine step_append_own rfl _ _ 22 rfl (w.heap.size + 1 + 1) 40 i0 _ 2 32 Tryz.underlying22 hi hj0 hj1 hj2 rfl (by decide) v k (rs.flatMap ShR.cs) rfl HA1.out.outer ⟨wr.heap.size + 1, 0, none⟩ 1 1 [.int .i64 id, .slice none 0 0] rfl rfl HNW.out (by simp [Value.oneCell']) (by unfold maxLen; omega) (by omega) (by have := HO.out; omega) ?_
      intro v2 w2 hown2 hgr2 _
      obtain ⟨a2, cap2, rfl, _⟩ := own_sh hown2
      have hS2 := hS7.grown hgr2 (fun q hq e => by simp only [List.mem_cons, List.not_mem_nil, or_false] at hq; subst hq; have := (hol _ e).1; simp only at this; omega)
      refine hK.out _ _ (fun _ => hS2) ?_
      clear hK K hS
      try simp only [List.getElem_toArray, List.getElem_cons_succ, List.getElem_cons_zero, Act.put, List.setIfInBounds_toArray, List.set_cons_zero, List.set_cons_succ]
      have HP := Lib.hid (HA1.out.push (w' := w2) (r := ⟨id, none, 0, 0⟩) (x := ⟨id, []⟩) (by decide) ⟨rfl, rfl, World.ownsRow_nil _ _ _ _⟩ (fun _ _ _ _ _ e => by simp [Value.ownBlock] at e) hown2 hgr2)
      have hb2 : Below (w.heap.size + 1 + 1) wr w2 := below_grown (hbW.mono (by omega)) hgr2 (fun g e => (hol g e).1) (by omega)
      have hz2 := hb2.size
      have hO2 := (hb2.block (w.heap.size + 1) (by omega)).trans HO.out
      have hR2 := (hb2.block w.heap.size (by omega)).trans HR.out
      have hu2 : Up B w w2 := hu.below hBl hb2 (by omega)
      have k2 := box_cells hO2; have f2 := box_frozen hO2
      have HO2 := Lib.hid hO2; have HR2 := Lib.hid hR2; clear hO2 hR2 hgr2 hown2
      refine wpTill_op (i := 9) (by kernel_rfl) rfl (fun K hK => ?_)
      go_simp
      refine hK.out _ _ (fun e => by cases e) ?_
      clear hK K
      try simp only [List.getElem_toArray, List.getElem_cons_succ, List.getElem_cons_zero, Act.put, List.setIfInBounds_toArray, List.set_cons_zero, List.set_cons_succ]
      refine wpTill_op (i := 10) (by kernel_rfl) rfl (fun K hK => ?_)
      go_simp
      refine hK.out _ _ (fun e => by cases e) ?_
      clear hK K
      refine wpTill_done (by kernel_rfl) ?_ _
      have HP2 := Lib.hid (HP.out.set (p := ⟨w.heap.size + 1, 0, none⟩) (by simp) (.slice a2 (k + 1) cap2))
      have hu3 : Up B w (w2.setCell ⟨w.heap.size + 1, 0, none⟩ (.slice a2 (k + 1) cap2)) := hu2.below hBl ((Below.refl (w.heap.size + 1) _).setCell (by simp) _) (by omega)
      go_wp2_with fail
      go_roundw
      case rel =>
        have HP3 := HP2.out
        rw [← HID.out] at HP3
        exact ⟨k + 1, by omega, by go_num, ⟨_, _, HP3, hset_same HO2.out rfl⟩, hset_other HR2.out (by simp), hu3⟩
      case measure => simp [intOf]; omega
    · obtain rfl : k = n := by omega
      obtain ⟨a, cap, rfl, hsh⟩ := own_sh HS.out.outer
      have HG0 := Lib.hid (bare_good hn3)
      go_wp2_with fail
      clear hnn HR1 HO1 kO fO
      obtain ⟨wp, hwp⟩ : ∃ wp : World, wp = wr := ⟨_, rfl⟩
      subst hwp
      go_loopw [6] (fun i wr => ∃ q : Nat, q ≤ k ∧ i = .int .i64 q ∧ (∃ rs xs, OwnShs wr (w.heap.size + 1 + 1) 40 44 (.slice a k cap) k rs xs ∧ RawGood (idL.take k) q 0 xs) ∧ wr.heap[w.heap.size + 1]? = some (.cells #[.slice a k cap] 24 (0, 0)) ∧ wr.heap[w.heap.size]? = some (.cells #[.slice none 0 0] 24 (0, 0)) ∧ Up B w wr) (fun i _ => k - (intOf i).toNat)
      case atStart => exact ⟨0, Nat.zero_le _, rfl, ⟨_, _, HS.out, HG0.out⟩, HO.out, HR.out, hu⟩
      case round =>
        obtain ⟨q, hq, rfl, ⟨rs2, xs, ho, hgood⟩, hO, hR, hu2⟩ := hrel
        obtain ⟨wq, hwq⟩ : ∃ wq : World, wq = wr := ⟨_, rfl⟩
        subst hwq
        have HO2 := Lib.hid hO; have HR2 := Lib.hid hR; have HS2 := Lib.hid ho; have HG := Lib.hid hgood; clear hO hR ho hgood
        by_cases hlq : q < k
        · go_wp2_with fail
          refine (l1Below_any B 6 _ hu2.cur (by omega) (by omega)).mono ?_
          rintro r w1 ⟨x, rfl, hx0, hx1, hc1, ho1⟩
          obtain ⟨m, rfl⟩ := Int.eq_ofNat_of_zero_le hx0
          have hm5 : m ≤ 5 := by omega
          have hO1 := (ho1.block (b := w.heap.size + 1) (box_lt HO2.out) (by omega)).trans HO2.out
          have hR1 := (ho1.block (b := w.heap.size) (box_lt HR2.out) (by omega)).trans HR2.out
          have hu1' := hu2.step hc1 ho1
          have HS1 := HS2.out.oth ho1 (by omega)
          have HO1 := Lib.hid hO1; have HR1 := Lib.hid hR1; clear hO1 hR1 hx0 hx1 HO2 HR2
          go_wp2_with fail
          have HS1 := Lib.hid HS1
          go_loopw [8] (fun j wi => ∃ p : Nat, p ≤ m ∧ j = .int .i64 p ∧ (∃ rs xs, OwnShs wi (w.heap.size + 1 + 1) 40 44 (.slice a k cap) k rs xs ∧ RawGood (idL.take k) q p xs) ∧ wi.heap[w.heap.size + 1]? = some (.cells #[.slice a k cap] 24 (0, 0)) ∧ wi.heap[w.heap.size]? = some (.cells #[.slice none 0 0] 24 (0, 0)) ∧ Up B w wi) (fun j _ => m - (intOf j).toNat)
          case atStart => exact ⟨0, Nat.zero_le _, rfl, ⟨_, _, HS1.out, HG.out⟩, HO1.out, HR1.out, hu1'⟩
          case round =>
            obtain ⟨p, hp, rfl, ⟨rs3, ys, ho, hgood⟩, hO, hR, hu3⟩ := hrel
            obtain ⟨wi, hwi⟩ : ∃ wi : World, wi = wr := ⟨_, rfl⟩
            subst hwi
            have HO3 := Lib.hid hO; have HR3 := Lib.hid hR; have HS3 := Lib.hid ho; have HG3 := Lib.hid hgood; clear hO hR ho hgood
            by_cases hlp : p < m
            · go_wp2_with fail
              refine (l1Below_any B 12 _ hu3.cur (by omega) (by omega)).mono ?_
              rintro r v1 ⟨x1, rfl, hx10, hx11, hd1, hp1⟩
              go_wp2_with fail
              refine (l1Below_any B 8 _ hd1 (by omega) (by omega)).mono ?_
              rintro r v2 ⟨x2, rfl, hx20, hx21, hd2, hp2⟩
              go_wp2_with fail
              refine (l1Once_any B 2 _ hd2 (by omega) (by omega)).mono ?_
              rintro r v3 ⟨b3, rfl, hd3, hp3⟩
              have hu4 := ((hu3.step hd1 hp1).step hd2 hp2).step hd3 hp3
              have HO4 := Lib.hid ((hp3.block (b := w.heap.size + 1) (by have := hp1.size; have := hp2.size; have := box_lt HO3.out; omega) (by omega)).trans ((hp2.block (b := w.heap.size + 1) (by have := hp1.size; have := box_lt HO3.out; omega) (by omega)).trans ((hp1.block (b := w.heap.size + 1) (box_lt HO3.out) (by omega)).trans HO3.out)))
              have HR4 := Lib.hid ((hp3.block (b := w.heap.size) (by have := hp1.size; have := hp2.size; have := box_lt HR3.out; omega) (by omega)).trans ((hp2.block (b := w.heap.size) (by have := hp1.size; have := box_lt HR3.out; omega) (by omega)).trans ((hp1.block (b := w.heap.size) (box_lt HR3.out) (by omega)).trans HR3.out)))
              have HS4 := Lib.hid (((HS3.out.oth hp1 (by omega)).oth hp2 (by omega)).oth hp3 (by omega))
              clear hp1 hp2 hp3 hd1 hd2 hd3
              go_upto_if 51 with (go_at_call 49; refine (l1Once_any B 12 _ (hu4.alloc hBl _).cur (by omega) (by omega)).mono ?_; rintro r v5 ⟨b5, rfl, hd5, hp5⟩)
              have hM5 := (Mid6.mk (T := 40) (TF := 44) (TR := 24) (f := ⟨1 + x1, 1 + x2, b3, false, 0⟩) hBl HS4.out HG3.out HO4.out HR4.out hu4).step hBl hd5 hp5
              have HM5 := Lib.hid hM5; clear hM5
              have hn1' : numOk (1 + x1) = true := by simp only [numOk, inB, Bool.and_eq_true, Bool.not_eq_true', decide_eq_true_eq, decide_eq_false_iff_not]; omega
              go_cut [] from 36 to 103 (fun wx => ∃ nu : Int, numOk nu = true ∧ Mid6 w B k q p cap a 40 44 24 v3.heap.size ⟨nu, 1 + x2, b3, false, 0⟩ wx)
              case first =>
                cases b5
                · go_wp2_with fail
                  go_meet
                  case rel => exact ⟨_, hn1', HM5.out⟩
                · go_wp2_with fail
                  have hMa := HM5.out.below (wy := v5.alloc (.cells #[.int .i64 16, .int .i64 2047, .int .i64 2048, .int .i64 18999, .int .i64 20000, .int .i64 536870911] 3)) hBl ((Below.refl _ _).alloc (Nat.le_refl _) _)
                  have hv5 : B < v5.heap.size := hd5.lt
                  refine (l1PickInt_in B v5.heap.size 6 [16, 2047, 2048, 18999, 20000, 536870911] 3 _ (hd5.below (by ((repeat (first | (with_reducible exact Below.refl _ _) | (with_reducible assumption) | (with_reducible refine Below.alloc ?_ ?_ _) | (with_reducible refine Below.setCell ?_ ?_ _) | (with_reducible refine Below.drew ?_) | (with_reducible refine below_setRow ?_ ?_ _) | (refine Below.trans ?_ (Below.mono (by assumption) ?_)))); all_goals (first | omega | (simp; done) | (simp; omega))))) (by omega) (hset_new rfl) (by decide) (by decide)).mono ?_
                  rintro r v6 ⟨nu, rfl, hnu, hd6, hp6⟩
                  have hM6 := hMa.step hBl hd6 hp6
                  have hnu' : numOk nu = true := by
                    simp only [List.mem_cons, List.not_mem_nil, or_false] at hnu
                    rcases hnu with rfl | rfl | rfl | rfl | rfl | rfl <;> rfl
                  obtain ⟨hF6, hl6⟩ : v6.heap[v3.heap.size]? = some (.cells #[.int .i64 (1 + x1), .int .i64 (1 + x2), .bool b3, .bool false, .int .i64 0] 44 (0, 0)) ∧ True := ⟨hM6.2.2.2.1, trivial⟩
                  have k6 := box_cells hF6; have f6 := box_frozen hF6
                  have HMs := Lib.hid (hM6.set (f' := ⟨nu, 1 + x2, b3, false, 0⟩) hBl 0 (.int .i64 nu) rfl)
                  clear hF6 hM6 hMa hp6 hd6
                  go_wp2_with fail
                  go_meet
                  case rel => exact ⟨_, hnu', HMs.out⟩
              case rest =>
                obtain ⟨nu, hnu, hm⟩ := hcut
                have HM6 := Lib.hid hm; clear hm
                have hF6 := HM6.out.2.2.2.1
                have k6 := box_cells hF6; have f6 := box_frozen hF6
                have kb := k6 0; have kk := k6 1; have kr := k6 2; have kp := k6 3
                simp only [List.getElem?_toArray, List.getElem?_cons_zero, List.getElem?_cons_succ] at kb kk kr kp
                clear hF6 k6
                go_upto_region 17 with fail
                go_cut [] from 36 to 103 (fun wx => ∃ pk : Bool, packOk ⟨nu, 1 + x2, b3, pk, 0⟩ = true ∧ Mid6 w B k q p cap a 40 44 24 v3.heap.size ⟨nu, 1 + x2, b3, pk, 0⟩ wx)
                case first =>
                  cases b3
                  · have HMs := Lib.hid (HM6.out.set (f' := ⟨nu, 1 + x2, false, false, 0⟩) hBl 3 (.bool false) rfl)
                    go_wp2_with fail
                    go_meet
                    case rel => exact ⟨false, rfl, HMs.out⟩
                  · cases hnm : inB (1 + x2) 1 5
                    · have HMs := Lib.hid (HM6.out.set (f' := ⟨nu, 1 + x2, true, false, 0⟩) hBl 3 (.bool false) rfl)
                      go_wp2_with (first | (go_at_call 72; refine (specNumeric_any _ _).mono ?_; rintro r w1 ⟨rfl, rfl⟩; rw [hnm]))
                      go_meet
                      case rel => exact ⟨false, rfl, HMs.out⟩
                    · go_wp2_with (first | (go_at_call 72; refine (specNumeric_any _ _).mono ?_; rintro r w1 ⟨rfl, rfl⟩; rw [hnm]))
                      have hu6 := HM6.out.2.2.2.2.2
                      refine (l1Once_any B 2 _ hu6.cur (by omega) (by omega)).mono ?_
                      rintro r v7 ⟨pk, rfl, hd7, hp7⟩
                      have hM7 := HM6.out.step hBl hd7 hp7
                      have hF7 := hM7.2.2.2.1
                      have k7 := box_cells hF7; have f7 := box_frozen hF7
                      have kp7 := k7 3
                      simp only [List.getElem?_toArray, List.getElem?_cons_zero, List.getElem?_cons_succ] at kp7
                      have HMs := Lib.hid (hM7.set (f' := ⟨nu, 1 + x2, true, pk, 0⟩) hBl 3 (.bool pk) rfl)
                      have hpk : packOk ⟨nu, 1 + x2, true, pk, 0⟩ = true := by simp [packOk, hnm]
                      clear hF7 k7 hM7 hd7 hp7 hnm
                      go_wp2_with fail
                      go_meet
                      case rel => exact ⟨pk, hpk, HMs.out⟩
                case rest =>
                  obtain ⟨pk, hpk, hm⟩ := hcut
                  have HM7 := Lib.hid hm; clear hm
                  have hF7 := HM7.out.2.2.2.1
                  have k7 := box_cells hF7
                  clear f6 kb kk kr kp
                  have f7 := box_frozen hF7
                  have kb := k7 0; have kk := k7 1
                  simp only [List.getElem?_toArray, List.getElem?_cons_zero, List.getElem?_cons_succ] at kb kk
                  clear hF7 k7 HM6
                  go_upto_if 70 with fail
                  have hkd : inB (1 + x2) 1 8 = true := by simp only [inB, decide_eq_true_eq]; omega
                  go_cut [] from 36 to 103 (fun wx => ∃ f : Fld, FG (idL.take k) f ∧ Mid6 w B k q p cap a 40 44 24 v3.heap.size f wx)
                  case first =>
                    by_cases h8 : 1 + x2 = 8
                    · have h8' : (1 + x2 == 8) = true := by simp [h8]
                      have H8 := Lib.hid h8; clear h8
                      go_wp2_with fail
                      have hO7 := HM7.out.2.1
                      have kO7 := box_cells hO7 0
                      simp only [List.getElem?_toArray, List.getElem?_cons_zero] at kO7
                      clear hO7
                      refine wp_region_till (Cells [(⟨w.heap.size + 1, 0, none⟩, .slice a k cap)]) (fun i => decide (8 ≤ i)) (by kernel_rfl) ?_
                      have hS : Cells [(⟨w.heap.size + 1, 0, none⟩, .slice a k cap)] wc.drew := cells_mk kO7 (cells_no _)
                      have hMd := HM7.out.below (wy := wc.drew) hBl (Below.refl _ _).drew
                      refine wpTill_take (i := 0) (v := ?v0_4) rfl (by kernel_rfl) (by kernel_rfl) (by kernel_rfl) (by kernel_rfl) (fun _ _ _ h => h) (Or.inl ⟨by rfl, ?y0_4⟩) hS ?r0_4
                      case y0_4 => (intro wq hq; (try simp only [cells_cons, cells_nil, and_true] at hq); first | (go_simp; done) | (go_simp; with_reducible rfl) | (obtain ⟨hq1, hq2⟩ := hq; go_simp; with_reducible rfl))
                      try simp only [List.getElem_toArray, List.getElem_cons_succ, List.getElem_cons_zero, Act.put, List.setIfInBounds_toArray, List.set_cons_zero, List.set_cons_succ]
                      refine wpTill_take (i := 1) (v := ?v1_5) rfl (by kernel_rfl) (by kernel_rfl) (by kernel_rfl) (by kernel_rfl) (fun _ _ _ h => h) (Or.inl ⟨by rfl, ?y1_5⟩) hS ?r1_5
                      case y1_5 => (intro wq hq; (try simp only [cells_cons, cells_nil, and_true] at hq); first | (go_simp; done) | (go_simp; with_reducible rfl) | (obtain ⟨hq1, hq2⟩ := hq; go_simp; with_reducible rfl))
                      try simp only [List.getElem_toArray, List.getElem_cons_succ, List.getElem_cons_zero, Act.put, List.setIfInBounds_toArray, List.set_cons_zero, List.set_cons_succ]
                      refine wpTill_take (i := 2) (v := ?v2_6) rfl (by kernel_rfl) (by kernel_rfl) (by kernel_rfl) (by kernel_rfl) (fun _ _ _ h => h) (Or.inl ⟨by rfl, ?y2_6⟩) hS ?r2_6
                      case y2_6 => (intro wq hq; (try simp only [cells_cons, cells_nil, and_true] at hq); first | (go_simp; done) | (go_simp; with_reducible rfl) | (obtain ⟨hq1, hq2⟩ := hq; go_simp; with_reducible rfl))
                      try simp only [List.getElem_toArray, List.getElem_cons_succ, List.getElem_cons_zero, Act.put, List.setIfInBounds_toArray, List.set_cons_zero, List.set_cons_succ]
                      refine wpTill_take (i := 3) (v := ?v3_7) rfl (by kernel_rfl) (by kernel_rfl) (by kernel_rfl) (by kernel_rfl) (fun _ _ _ h => h) (Or.inl ⟨by rfl, ?y3_7⟩) hS ?r3_7
                      case y3_7 => (intro wq hq; (try simp only [cells_cons, cells_nil, and_true] at hq); first | (go_simp; done) | (go_simp; with_reducible rfl) | (obtain ⟨hq1, hq2⟩ := hq; go_simp; with_reducible rfl))
                      try simp only [List.getElem_toArray, List.getElem_cons_succ, List.getElem_cons_zero, Act.put, List.setIfInBounds_toArray, List.set_cons_zero, List.set_cons_succ]
                      refine wpTill_op (i := 4) (by kernel_rfl) rfl (fun K hK => ?_)
                      go_simp
                      refine (l1Below_any B k _ hMd.2.2.2.2.2.cur (by omega) (by omega)).mono ?_
                      rintro r v8 ⟨x8, rfl, hx80, hx81, hd8, hp8⟩
                      obtain ⟨j, rfl⟩ := Int.eq_ofNat_of_zero_le hx80
                      have hM8 := hMd.step hBl hd8 hp8
                      have hF8 := hM8.2.2.2.1
                      have kf8 := box_cells hF8 4; have f8 := box_frozen hF8
                      simp only [List.getElem?_toArray, List.getElem?_cons_zero, List.getElem?_cons_succ] at kf8
                      have hO8 := box_cells hM8.2.1 0
                      simp only [List.getElem?_toArray, List.getElem?_cons_zero] at hO8
                      have hS8 : Cells [(⟨w.heap.size + 1, 0, none⟩, .slice a k cap)] v8 := cells_mk hO8 (cells_no _)
                      obtain ⟨⟨rs8, xs8, hs8, hg8, -, -⟩, -⟩ := id hM8
                      obtain ⟨y, hy, -⟩ := at_lt (xs := xs8) (k := j) (by rw [hs8.lenx]; omega)
                      have hid8 : (idL.take k)[j]? = some y.id := by rw [← hg8.ids_, List.getElem?_map, hy]; rfl
                      have HFG : FG (idL.take k) ⟨nu, 1 + x2, b3, pk, y.id⟩ := ⟨hnu, hkd, hpk, by rw [if_pos H8.out]; exact any_hit hid8 (by simp)⟩
                      obtain ⟨bb, off, a', cap', rfl, hbl, c0, -⟩ := Shs.at hs8.shs hy
                      have HMs := Lib.hid (hM8.set (f' := ⟨nu, 1 + x2, b3, pk, y.id⟩) hBl 4 (.int .i64 y.id) rfl)
                      have hjk : (j : Int) < (k : Int) := by omega
                      clear hF8 hM8 hs8 hg8 hy hid8 hp8 hd8
                      refine hK.out _ _ (fun _ => hS8) ?_
                      clear hK K
                      try simp only [List.getElem_toArray, List.getElem_cons_succ, List.getElem_cons_zero, Act.put, List.setIfInBounds_toArray, List.set_cons_zero, List.set_cons_succ]
                      refine wpTill_op (i := 5) (by kernel_rfl) rfl (fun K hK => ?_)
                      go_simp
                      refine hK.out _ _ (fun _ => hS8.drew) ?_
                      clear hK K
                      try simp only [List.getElem_toArray, List.getElem_cons_succ, List.getElem_cons_zero, Act.put, List.setIfInBounds_toArray, List.set_cons_zero, List.set_cons_succ]
                      refine wpTill_op (i := 6) (by kernel_rfl) rfl (fun K hK => ?_)
                      go_simp
                      refine hK.out _ _ (fun _ => hS8.drew) ?_
                      clear hK K
                      try simp only [List.getElem_toArray, List.getElem_cons_succ, List.getElem_cons_zero, Act.put, List.setIfInBounds_toArray, List.set_cons_zero, List.set_cons_succ]
                      refine wpTill_op (i := 7) (by kernel_rfl) rfl (fun K hK => ?_)
                      go_simp
                      refine hK.out _ _ (fun _ => hS8.drew) ?_
                      clear hK K
                      try simp only [List.getElem_toArray, List.getElem_cons_succ, List.getElem_cons_zero, Act.put, List.setIfInBounds_toArray, List.set_cons_zero, List.set_cons_succ]
                      refine wpTill_op (i := 8) (by kernel_rfl) rfl (fun K hK => ?_)
                      go_simp
                      refine hK.out _ _ (fun e => by cases e) ?_
                      clear hK K
                      try simp only [List.getElem_toArray, List.getElem_cons_succ, List.getElem_cons_zero, Act.put, List.setIfInBounds_toArray, List.set_cons_zero, List.set_cons_succ]
                      refine wpTill_op (i := 9) (by kernel_rfl) rfl (fun K hK => ?_)
                      go_simp
                      refine hK.out _ _ (fun e => by cases e) ?_
                      clear hK K
                      refine wpTill_done (by kernel_rfl) ?_ _
                      go_wp2_with fail
                      go_meet
                      case rel => exact ⟨_, HFG, HMs.out⟩
                    · have h8' : (1 + x2 == 8) = false := by simp [h8]
                      have HFG : FG (idL.take k) ⟨nu, 1 + x2, b3, pk, 0⟩ := ⟨hnu, hkd, hpk, by rw [if_neg h8]⟩
                      clear h8
                      go_wp2_with fail
                      go_meet
                      case rel => exact ⟨_, HFG, HM7.out⟩
                  case rest =>
                    obtain ⟨f, hf, hm⟩ := hcut
                    have HM8 := Lib.hid hm; clear hm
                    have hF8 := HM8.out.2.2.2.1
                    have k8 := box_cells hF8
                    clear f7 kb kk HM7 hkd hpk hnu
                    have f8 := box_frozen hF8
                    clear hF8
                    go_upto_region 20 with fail
                    obtain ⟨⟨rs8, xs8, hs8, hg8, hneA, hneB⟩, hO8, -⟩ := id HM8.out
                    have HNA := Lib.hid hneA; clear hneA hneB
                    obtain ⟨y, hy, -⟩ := at_lt (xs := xs8) (k := q) (by rw [hs8.lenx]; exact hlq)
                    have hfl8 : y.flds.length ≤ 1048576 := by have := hg8.len q y hy; simp at this; omega
                    obtain ⟨bb, off, a', cap', rfl, hbl, c0, c1, hfs⟩ := Shs.at hs8.shs hy
                    have kO8 := box_cells hO8 0
                    simp only [List.getElem?_toArray, List.getElem?_cons_zero] at kO8
                    have kb := k8 0
                    simp only [List.getElem?_toArray, List.getElem?_cons_zero] at kb
                    have HFS := Lib.hid hfs; have HS8 := Lib.hid hs8; have HG8 := Lib.hid hg8; have HY := Lib.hid hy; clear hfs hs8 hg8 hy hO8 k8
                    have hqk : (q : Int) < (k : Int) := by omega
                    refine wp_region_till (Cells [(⟨w.heap.size + 1, 0, none⟩, .slice (some ⟨bb, off, none⟩) k cap), (⟨bb, off + q * 2 + 1, none⟩, .slice a' y.flds.length cap'), (⟨v3.heap.size, 0, none⟩, .int .i64 f.number)]) (fun _ => false) (by kernel_rfl) ?_
                    have hS : Cells [(⟨w.heap.size + 1, 0, none⟩, .slice (some ⟨bb, off, none⟩) k cap), (⟨bb, off + q * 2 + 1, none⟩, .slice a' y.flds.length cap'), (⟨v3.heap.size, 0, none⟩, .int .i64 f.number)] wc.drew := cells_mk kO8 (cells_mk c1 (cells_mk kb (cells_no _)))
                    refine wpTill_take (i := 0) (v := ?v0_8) rfl (by kernel_rfl) (by kernel_rfl) (by kernel_rfl) (by kernel_rfl) (fun _ _ _ h => h) (Or.inl ⟨by rfl, ?y0_8⟩) hS ?r0_8
                    case y0_8 => (intro wq hq; (try simp only [cells_cons, cells_nil, and_true] at hq); first | (go_simp; done) | (go_simp; with_reducible rfl) | (obtain ⟨hq1, hq2⟩ := hq; go_simp; with_reducible rfl))
                    try simp only [List.getElem_toArray, List.getElem_cons_succ, List.getElem_cons_zero, Act.put, List.setIfInBounds_toArray, List.set_cons_zero, List.set_cons_succ]
                    refine wpTill_take (i := 1) (v := ?v1_9) rfl (by kernel_rfl) (by kernel_rfl) (by kernel_rfl) (by kernel_rfl) (fun _ _ _ h => h) (Or.inl ⟨by rfl, ?y1_9⟩) hS ?r1_9
                    case y1_9 => (intro wq hq; (try simp only [cells_cons, cells_nil, and_true] at hq); first | (go_simp; done) | (go_simp; with_reducible rfl) | (obtain ⟨hq1, hq2⟩ := hq; go_simp; with_reducible rfl))
                    try simp only [List.getElem_toArray, List.getElem_cons_succ, List.getElem_cons_zero, Act.put, List.setIfInBounds_toArray, List.set_cons_zero, List.set_cons_succ]
                    refine wpTill_take (i := 2) (v := ?v2_10) rfl (by kernel_rfl) (by kernel_rfl) (by kernel_rfl) (by kernel_rfl) (fun _ _ _ h => h) (Or.inl ⟨by rfl, ?y2_10⟩) hS ?r2_10
                    case y2_10 => (intro wq hq; (try simp only [cells_cons, cells_nil, and_true] at hq); first | (go_simp; done) | (go_simp; with_reducible rfl) | (obtain ⟨hq1, hq2⟩ := hq; go_simp; with_reducible rfl))
                    try simp only [List.getElem_toArray, List.getElem_cons_succ, List.getElem_cons_zero, Act.put, List.setIfInBounds_toArray, List.set_cons_zero, List.set_cons_succ]
                    refine wpTill_take (i := 3) (v := ?v3_11) rfl (by kernel_rfl) (by kernel_rfl) (by kernel_rfl) (by kernel_rfl) (fun _ _ _ h => h) (Or.inl ⟨by rfl, ?y3_11⟩) hS ?r3_11
                    case y3_11 => (intro wq hq; (try simp only [cells_cons, cells_nil, and_true] at hq); first | (go_simp; done) | (go_simp; with_reducible rfl) | (obtain ⟨hq1, hq2⟩ := hq; go_simp; with_reducible rfl))
                    try simp only [List.getElem_toArray, List.getElem_cons_succ, List.getElem_cons_zero, Act.put, List.setIfInBounds_toArray, List.set_cons_zero, List.set_cons_succ]
                    refine wpTill_take (i := 4) (v := ?v4_12) rfl (by kernel_rfl) (by kernel_rfl) (by kernel_rfl) (by kernel_rfl) (fun _ _ _ h => h) (Or.inl ⟨by rfl, ?y4_12⟩) hS ?r4_12
                    case y4_12 => (intro wq hq; (try simp only [cells_cons, cells_nil, and_true] at hq); first | (go_simp; done) | (go_simp; with_reducible rfl) | (obtain ⟨hq1, hq2⟩ := hq; go_simp; with_reducible rfl))
                    try simp only [List.getElem_toArray, List.getElem_cons_succ, List.getElem_cons_zero, Act.put, List.setIfInBounds_toArray, List.set_cons_zero, List.set_cons_succ]
                    refine wpTill_take (i := 5) (v := ?v5_13) rfl (by kernel_rfl) (by kernel_rfl) (by kernel_rfl) (by kernel_rfl) (fun _ _ _ h => h) (Or.inl ⟨by rfl, ?y5_13⟩) hS ?r5_13
                    case y5_13 => (intro wq hq; (try simp only [cells_cons, cells_nil, and_true] at hq); first | (go_simp; done) | (go_simp; with_reducible rfl) | (obtain ⟨hq1, hq2⟩ := hq; go_simp; with_reducible rfl))
                    try simp only [List.getElem_toArray, List.getElem_cons_succ, List.getElem_cons_zero, Act.put, List.setIfInBounds_toArray, List.set_cons_zero, List.set_cons_succ]
                    refine wpTill_take (i := 6) (v := ?v6_14) rfl (by kernel_rfl) (by kernel_rfl) (by kernel_rfl) (by kernel_rfl) (fun _ _ _ h => h) (Or.inl ⟨by rfl, ?y6_14⟩) hS ?r6_14
                    case y6_14 => (intro wq hq; (try simp only [cells_cons, cells_nil, and_true] at hq); first | (go_simp; done) | (go_simp; with_reducible rfl) | (obtain ⟨hq1, hq2⟩ := hq; go_simp; with_reducible rfl))
                    try simp only [List.getElem_toArray, List.getElem_cons_succ, List.getElem_cons_zero, Act.put, List.setIfInBounds_toArray, List.set_cons_zero, List.set_cons_succ]
                    refine wpTill_take (i := 7) (v := ?v7_15) rfl (by kernel_rfl) (by kernel_rfl) (by kernel_rfl) (by kernel_rfl) (fun _ _ _ h => h) (Or.inl ⟨by rfl, ?y7_15⟩) hS ?r7_15
                    case y7_15 => (intro wq hq; (try simp only [cells_cons, cells_nil, and_true] at hq); first | (go_simp; done) | (go_simp; with_reducible rfl) | (obtain ⟨hq1, hq2⟩ := hq; go_simp; with_reducible rfl))
                    try simp only [List.getElem_toArray, List.getElem_cons_succ, List.getElem_cons_zero, Act.put, List.setIfInBounds_toArray, List.set_cons_zero, List.set_cons_succ]
                    refine wpTill_op (i := 8) (by kernel_rfl) rfl (fun K hK => ?_)
                    go_simp
                    refine (l6HasNumber_any a' cap' y.flds.length y.flds f.number _ (Sl.keep HFS.out (by ((repeat (first | (with_reducible exact Below.refl _ _) | (with_reducible assumption) | (with_reducible refine Below.alloc ?_ ?_ _) | (with_reducible refine Below.setCell ?_ ?_ _) | (with_reducible refine Below.drew ?_) | (with_reducible refine below_setRow ?_ ?_ _) | (refine Below.trans ?_ (Below.mono (by assumption) ?_)))); all_goals (first | omega | (simp; done) | (simp; omega))))) rfl hfl8).mono ?_
                    rintro r v9 ⟨rfl, hb9⟩
                    have hM9 := (HM8.out.below (wy := wc.drew) hBl (Below.refl _ _).drew).below hBl hb9
                    refine hK.out _ _ (fun _ => hS.below hb9) ?_
                    clear hK K
                    try simp only [List.getElem_toArray, List.getElem_cons_succ, List.getElem_cons_zero, Act.put, List.setIfInBounds_toArray, List.set_cons_zero, List.set_cons_succ]
                    have HM9 := Lib.hid hM9; clear hM9
                    refine wpTill_op (i := 9) (by kernel_rfl) rfl (fun K hK => ?_)
                    go_simp
                    refine hK.out _ _ (fun _ => (hS.below hb9).drew) ?_
                    clear hK K
                    refine wpTill_done (by kernel_rfl) ?_ _
                    cases hh : hasNum y.flds f.number
                    · have HS9 := Lib.hid (HS8.out.drew.below hb9 (Nat.le_refl _))
                      obtain ⟨-, hO9, hR9, hF9, hlt9, hu9⟩ := id HM9.out
                      obtain ⟨r, hr, hrm⟩ := at_lt (xs := rs8) (k := q) (by rw [HS8.out.len]; exact hlq)
                      have hrow := HS9.out.each q r y hr HY.out
                      have hrn : r.n = y.flds.length := hrow.2.1
                      have hown0 := hrow.2.2
                      obtain ⟨g0, cap0, e0, hg0, hg0l⟩ := HS9.out.outer.form (by omega)
                      simp only [Value.slice.injEq, Option.some.injEq, Addr.mk.injEq, and_true, true_and] at e0
                      obtain ⟨⟨rfl, rfl⟩, rfl⟩ := e0
                      have hcell : v9.cell? ⟨bb, q * 2 + 1, none⟩ = some (.slice r.a r.n r.cap) := by
                        have := HS9.out.outer.cells (g := bb) rfl (q * 2 + 1) (.slice r.a r.n r.cap) (by rw [flatMap_at shR_len rs8 q 1 r hr (by omega)]; rfl)
                        simpa [Addr.add] using this
                      have hRF : ∀ g, (Value.slice r.a r.n r.cap).ownBlock = some g → g ≠ v3.heap.size := fun g e => HNA.out r hrm g e
                      have hRT : (Value.slice r.a r.n r.cap).ownBlock ≠ some bb := fun e => HS9.out.outerNe (by decide) hr HY.out e rfl
                      have hRB : ∀ g, (Value.slice r.a r.n r.cap).ownBlock = some g → w.heap.size + 1 + 1 ≤ g := fun g e => (hown0.lt g e).1
                      have hlen5 := HG8.out.len q y HY.out
                      have hlen : y.flds.length ≤ 5 := by simp at hlen5; omega
                      clear hlen5 hrow
                      obtain ⟨rid, ra, rn, rcap⟩ := r
                      simp only at hrn hown0 hcell hRF hRT hRB
                      subst hrn
                      have kO9 := box_cells hO9 0; have k9 := box_cells hF9
                      simp only [List.getElem?_toArray, List.getElem?_cons_zero] at kO9
                      have HR := Lib.hid hr; clear hr hrm kO8 c0 c1 kb hS
                      have HO9 := Lib.hid hO9; have HR9 := Lib.hid hR9; have HW9 := Lib.hid hown0; clear hO9 hR9 hF9 hown0
                      go_upto_region 21 with fail
                      refine wp_region_till (Cells [(⟨v3.heap.size, 0, none⟩, .int .i64 f.number), (⟨v3.heap.size, 1, none⟩, .int .i64 f.kind), (⟨v3.heap.size, 2, none⟩, .bool f.rep), (⟨v3.heap.size, 3, none⟩, .bool f.packed), (⟨v3.heap.size, 4, none⟩, .int .i64 f.msg), (⟨w.heap.size + 1, 0, none⟩, .slice (some ⟨bb, 0, none⟩) k cap), (⟨bb, q * 2 + 1, none⟩, .slice ra y.flds.length rcap)]) (fun i => decide (14 ≤ i)) (by kernel_rfl) ?_
                      have hS : Cells [(⟨v3.heap.size, 0, none⟩, .int .i64 f.number), (⟨v3.heap.size, 1, none⟩, .int .i64 f.kind), (⟨v3.heap.size, 2, none⟩, .bool f.rep), (⟨v3.heap.size, 3, none⟩, .bool f.packed), (⟨v3.heap.size, 4, none⟩, .int .i64 f.msg), (⟨w.heap.size + 1, 0, none⟩, .slice (some ⟨bb, 0, none⟩) k cap), (⟨bb, q * 2 + 1, none⟩, .slice ra y.flds.length rcap)] v9.drew := cells_mk (k9 0) (cells_mk (k9 1) (cells_mk (k9 2) (cells_mk (k9 3) (cells_mk (k9 4) (cells_mk kO9 (cells_mk hcell (cells_no _)))))))
                      clear k9 kO9 hcell
                      refine wpTill_take (i := 0) (v := ?v0_16) rfl (by kernel_rfl) (by kernel_rfl) (by kernel_rfl) (by kernel_rfl) (fun _ _ _ h => h) (Or.inl ⟨by rfl, ?y0_16⟩) hS ?r0_16
                      case y0_16 => (intro wq hq; (try simp only [cells_cons, cells_nil, and_true] at hq); first | (go_simp; done) | (go_simp; with_reducible rfl) | (obtain ⟨hq1, hq2⟩ := hq; go_simp; with_reducible rfl))
                      try simp only [List.getElem_toArray, List.getElem_cons_succ, List.getElem_cons_zero, Act.put, List.setIfInBounds_toArray, List.set_cons_zero, List.set_cons_succ]
                      refine wpTill_take (i := 1) (v := ?v1_17) rfl (by kernel_rfl) (by kernel_rfl) (by kernel_rfl) (by kernel_rfl) (fun _ _ _ h => h) (Or.inl ⟨by rfl, ?y1_17⟩) hS ?r1_17
                      case y1_17 => (intro wq hq; (try simp only [cells_cons, cells_nil, and_true] at hq); first | (go_simp; done) | (go_simp; with_reducible rfl) | (obtain ⟨hq1, hq2⟩ := hq; go_simp; with_reducible rfl))
                      try simp only [List.getElem_toArray, List.getElem_cons_succ, List.getElem_cons_zero, Act.put, List.setIfInBounds_toArray, List.set_cons_zero, List.set_cons_succ]
                      refine wpTill_take (i := 2) (v := ?v2_18) rfl (by kernel_rfl) (by kernel_rfl) (by kernel_rfl) (by kernel_rfl) (fun _ _ _ h => h) (Or.inl ⟨by rfl, ?y2_18⟩) hS ?r2_18
                      case y2_18 => (intro wq hq; (try simp only [cells_cons, cells_nil, and_true] at hq); first | (go_simp; done) | (go_simp; with_reducible rfl) | (obtain ⟨hq1, hq2⟩ := hq; go_simp; with_reducible rfl))
                      try simp only [List.getElem_toArray, List.getElem_cons_succ, List.getElem_cons_zero, Act.put, List.setIfInBounds_toArray, List.set_cons_zero, List.set_cons_succ]
                      refine wpTill_take (i := 3) (v := ?v3_19) rfl (by kernel_rfl) (by kernel_rfl) (by kernel_rfl) (by kernel_rfl) (fun _ _ _ h => h) (Or.inl ⟨by rfl, ?y3_19⟩) hS ?r3_19
                      case y3_19 => (intro wq hq; (try simp only [cells_cons, cells_nil, and_true] at hq); first | (go_simp; done) | (go_simp; with_reducible rfl) | (obtain ⟨hq1, hq2⟩ := hq; go_simp; with_reducible rfl))
                      try simp only [List.getElem_toArray, List.getElem_cons_succ, List.getElem_cons_zero, Act.put, List.setIfInBounds_toArray, List.set_cons_zero, List.set_cons_succ]
                      refine wpTill_take (i := 4) (v := ?v4_20) rfl (by kernel_rfl) (by kernel_rfl) (by kernel_rfl) (by kernel_rfl) (fun _ _ _ h => h) (Or.inl ⟨by rfl, ?y4_20⟩) hS ?r4_20
                      case y4_20 => (intro wq hq; (try simp only [cells_cons, cells_nil, and_true] at hq); first | (go_simp; done) | (go_simp; with_reducible rfl) | (obtain ⟨hq1, hq2⟩ := hq; go_simp; with_reducible rfl))
                      try simp only [List.getElem_toArray, List.getElem_cons_succ, List.getElem_cons_zero, Act.put, List.setIfInBounds_toArray, List.set_cons_zero, List.set_cons_succ]
                      refine wpTill_take (i := 5) (v := ?v5_21) rfl (by kernel_rfl) (by kernel_rfl) (by kernel_rfl) (by kernel_rfl) (fun _ _ _ h => h) (Or.inl ⟨by rfl, ?y5_21⟩) hS ?r5_21
                      case y5_21 => (intro wq hq; (try simp only [cells_cons, cells_nil, and_true] at hq); first | (go_simp; done) | (go_simp; with_reducible rfl) | (obtain ⟨hq1, hq2⟩ := hq; go_simp; with_reducible rfl))
                      try simp only [List.getElem_toArray, List.getElem_cons_succ, List.getElem_cons_zero, Act.put, List.setIfInBounds_toArray, List.set_cons_zero, List.set_cons_succ]
                      refine wpTill_take (i := 6) (v := ?v6_22) rfl (by kernel_rfl) (by kernel_rfl) (by kernel_rfl) (by kernel_rfl) (fun _ _ _ h => h) (Or.inl ⟨by rfl, ?y6_22⟩) hS ?r6_22
                      case y6_22 => (intro wq hq; (try simp only [cells_cons, cells_nil, and_true] at hq); first | (go_simp; done) | (go_simp; with_reducible rfl) | (obtain ⟨hq1, hq2⟩ := hq; go_simp; with_reducible rfl))
                      try simp only [List.getElem_toArray, List.getElem_cons_succ, List.getElem_cons_zero, Act.put, List.setIfInBounds_toArray, List.set_cons_zero, List.set_cons_succ]
                      refine wpTill_take (i := 7) (v := ?v7_23) rfl (by kernel_rfl) (by kernel_rfl) (by kernel_rfl) (by kernel_rfl) (fun _ _ _ h => h) (Or.inl ⟨by rfl, ?y7_23⟩) hS ?r7_23
                      case y7_23 => (intro wq hq; (try simp only [cells_cons, cells_nil, and_true] at hq); first | (go_simp; done) | (go_simp; with_reducible rfl) | (obtain ⟨hq1, hq2⟩ := hq; go_simp; with_reducible rfl))
                      try simp only [List.getElem_toArray, List.getElem_cons_succ, List.getElem_cons_zero, Act.put, List.setIfInBounds_toArray, List.set_cons_zero, List.set_cons_succ]
                      refine wpTill_take (i := 8) (v := ?v8_24) rfl (by kernel_rfl) (by kernel_rfl) (by kernel_rfl) (by kernel_rfl) (fun _ _ _ h => h) (Or.inl ⟨by rfl, ?y8_24⟩) hS ?r8_24
                      case y8_24 => (intro wq hq; (try simp only [cells_cons, cells_nil, and_true] at hq); first | (go_simp; done) | (go_simp; with_reducible rfl) | (obtain ⟨hq1, hq2⟩ := hq; go_simp; with_reducible rfl))
                      try simp only [List.getElem_toArray, List.getElem_cons_succ, List.getElem_cons_zero, Act.put, List.setIfInBounds_toArray, List.set_cons_zero, List.set_cons_succ]
                      refine' wpTill_take (i := 9) (oi := _) (v := .agg #[.int .i64 f.number, .int .i64 f.kind, .bool f.rep, .bool f.packed, .int .i64 f.msg]) rfl (by kernel_rfl) (by kernel_rfl) (by kernel_rfl) (by kernel_rfl) (fun _ _ _ h => h) (yieldsIf_load_mid (by rfl) _ _ rfl _ _ rfl [.int .i64 f.number, .int .i64 f.kind, .bool f.rep, .bool f.packed, .int .i64 f.msg] _ (fun wq hq => range_fiveA hq) Tryz.underlying44 rfl (by kernel_rfl)) hS ?_
                      try simp only [List.getElem_toArray, List.getElem_cons_succ, List.getElem_cons_zero, Act.put, List.setIfInBounds_toArray, List.set_cons_zero, List.set_cons_succ]
                      refine wpTill_op (i := 10) (by kernel_rfl) rfl (fun K hK => ?_)
                      go_simp
                      refine hK.out _ _ (fun _ => (hS.alloc _).drew) ?_
                      have hS10 := (hS.alloc (.cells #[.int .i64 f.number, .int .i64 f.kind, .bool f.rep, .bool f.packed, .int .i64 f.msg] 44)).drew; clear hS; have hS := hS10; clear hS10
                      clear hK K
                      try simp only [List.getElem_toArray, List.getElem_cons_succ, List.getElem_cons_zero, Act.put, List.setIfInBounds_toArray, List.set_cons_zero, List.set_cons_succ]
                      obtain ⟨W, hW⟩ : ∃ W : World, W = (v9.alloc (.cells #[.int .i64 f.number, .int .i64 f.kind, .bool f.rep, .bool f.packed, .int .i64 f.msg] 44)).drew := ⟨_, rfl⟩
                      have hbW : Below v9.heap.size v9 W := by rw [hW]; exact ((Below.refl _ _).alloc (Nat.le_refl _) _).drew
                      have hWz : v9.heap.size < W.heap.size := by rw [hW]; simp
                      have hSW : Cells [(⟨v3.heap.size, 0, none⟩, .int .i64 f.number), (⟨v3.heap.size, 1, none⟩, .int .i64 f.kind), (⟨v3.heap.size, 2, none⟩, .bool f.rep), (⟨v3.heap.size, 3, none⟩, .bool f.packed), (⟨v3.heap.size, 4, none⟩, .int .i64 f.msg), (⟨w.heap.size + 1, 0, none⟩, .slice (some ⟨bb, 0, none⟩) k cap), (⟨bb, q * 2 + 1, none⟩, .slice ra y.flds.length rcap)] W := by rw [hW]; exact hS
                      have HNW := Lib.hid (World.news_of_block (w := W) (cs := #[.int .i64 f.number, .int .i64 f.kind, .bool f.rep, .bool f.packed, .int .i64 f.msg]) (t := 44) (fr := (0, 0)) (B := v9.heap.size) (by rw [hW]; exact hset_drew (hset_new rfl)))
                      have HOW := Lib.hid (owns_below HW9.out hbW (Nat.le_refl _))
                      clear hS
                      refine wpTill_op (i := 11) (by kernel_rfl) rfl (fun K hK => ?_)
                      rw [← hW]
                      refine step_append_lies W rfl _ _ 38 rfl (w.heap.size + 1 + 1) 44 i5 _ 5 32 Tryz.underlying38 hi5 hk0 hk1 hk2 rfl (by decide) (.slice ra y.flds.length rcap) y.flds.length (y.flds.flatMap Fld.cs) rfl HOW.out ⟨v9.heap.size, 0, none⟩ 1 1 [.int .i64 f.number, .int .i64 f.kind, .bool f.rep, .bool f.packed, .int .i64 f.msg] rfl rfl HNW.out (by simp [Value.oneCell']) (by omega) (by unfold maxLen; omega) (by omega) (by have := box_lt HO9.out; omega) _ rfl ?_
                      intro gn capn w11 hown11 hgr11 hat11 hlt11
                      have hS11 := hSW.grown hgr11 (by intro q' hq' e; simp only [List.mem_cons, List.not_mem_nil, or_false] at hq'; rcases hq' with rfl | rfl | rfl | rfl | rfl | rfl | rfl <;> first | exact hRF _ e rfl | exact hRT e | (have := hRB _ e; simp only at this; omega))
                      refine hK.out _ _ (fun _ => hS11) ?_
                      clear hK K hSW
                      try simp only [List.getElem_toArray, List.getElem_cons_succ, List.getElem_cons_zero, Act.put, List.setIfInBounds_toArray, List.set_cons_zero, List.set_cons_succ]
                      have HSW := Lib.hid (HS9.out.below hbW (Nat.le_refl _))
                      have hO11 := HSW.out.outerKept (by decide) HR.out HY.out hgr11
                      have hfz : ∀ j, w11.frozen? ⟨bb, j, none⟩ = false := hO11.frozenAt
                      clear hO11
                      refine wpTill_op (i := 12) (by kernel_rfl) rfl (fun K hK => ?_)
                      go_simp
                      refine hK.out _ _ (fun _ => hS11) ?_
                      clear hK K
                      try simp only [List.getElem_toArray, List.getElem_cons_succ, List.getElem_cons_zero, Act.put, List.setIfInBounds_toArray, List.set_cons_zero, List.set_cons_succ]
                      refine wpTill_op (i := 13) (by kernel_rfl) rfl (fun K hK => ?_)
                      go_simp
                      refine hK.out _ _ (fun _ => hS11) ?_
                      clear hK K
                      try simp only [List.getElem_toArray, List.getElem_cons_succ, List.getElem_cons_zero, Act.put, List.setIfInBounds_toArray, List.set_cons_zero, List.set_cons_succ]
                      have hrowc : w11.cell? ⟨bb, q * 2 + 1, none⟩ = some (.slice ra y.flds.length rcap) := hS11 (⟨bb, q * 2 + 1, none⟩, _) (by simp)
                      refine wpTill_op (i := 14) (by kernel_rfl) rfl (fun K hK => ?_)
                      go_simp
                      refine hK.out _ _ (fun e => by cases e) ?_
                      clear hK K
                      refine wpTill_done (by kernel_rfl) ?_ _
                      have HSF := Lib.hid (HSW.out.growAt (by decide) HR.out HY.out hgr11 (a' := some ⟨gn, 0, none⟩) (m' := y.flds.length + 1) (cap' := capn) (fs := y.flds ++ [f]) (by simp) (by simpa [List.flatMap_append, Fld.cs] using hown11) (fun b e => by have e' : gn = b := Option.some.inj e; subst e'; exact hat11.imp id (fun e => Nat.le_of_eq e.symm)))
                      have HGF := Lib.hid (HG8.out.put HY.out hf hh)
                      have hz9 : w.heap.size + 1 < v9.heap.size := box_lt HO9.out
                      have hb11 : Below (w.heap.size + 1 + 1) v9 w11 := below_grown (hbW.mono (by omega)) hgr11 (fun g e => hRB g e) (by omega)
                      have hbF : Below (w.heap.size + 1 + 1) v9 (w11.setCell ⟨bb, q * 2 + 1, none⟩ (.slice (some ⟨gn, 0, none⟩) (y.flds.length + 1) capn)) := hb11.setCell (by simpa using hg0) _
                      have HOF := Lib.hid ((hbF.block (w.heap.size + 1) (by omega)).trans HO9.out)
                      have HRF := Lib.hid ((hbF.block w.heap.size (by omega)).trans HR9.out)
                      have huF : Up B w (w11.setCell ⟨bb, q * 2 + 1, none⟩ (.slice (some ⟨gn, 0, none⟩) (y.flds.length + 1) capn)) := hu9.below hBl hbF (by omega)
                      clear hbF hb11 hrowc hS11 hgr11 hown11 hfz HSW hh
                      go_wp2_with fail
                      go_roundw
                      case rel => first | exact ⟨p + 1, by omega, by go_num, ⟨_, _, HSF.out, HGF.out⟩, HOF.out, HRF.out, huF⟩ | ((repeat apply Exists.intro); exact ⟨⟨p + 1, by omega, by go_num, ⟨_, _, HSF.out, HGF.out⟩, HOF.out, HRF.out, huF⟩, rfl⟩)
                      case measure => simp [intOf]; omega
                    · go_wp2_with fail
                      obtain ⟨⟨rs9, xs9, h19, h29, -, -⟩, hO9, hR9, -, -, hu9⟩ := HM9.out
                      go_roundw
                      case rel => first | exact ⟨p + 1, by omega, by go_num, ⟨rs9, xs9, h19, h29.next⟩, hO9, hR9, hu9⟩ | ((repeat apply Exists.intro); exact ⟨⟨p + 1, by omega, by go_num, ⟨rs9, xs9, h19, h29.next⟩, hO9, hR9, hu9⟩, rfl⟩)
                      case measure => simp [intOf]; omega
            · have hpm : p = m := by omega
              subst hpm
              have hgt := HG3.out.turn hm5
              go_wp2_with fail
              go_roundw
              case rel => exact ⟨q + 1, by omega, by go_num, ⟨_, _, HS3.out, hgt⟩, HO3.out, HR3.out, hu3⟩
              case measure => simp [intOf]; omega
        · obtain rfl : q = k := by omega
          have fin : ∀ W : World, W.heap[w.heap.size]? = some (.cells #[.slice a q cap] 24 (0, 0)) → OwnShs W w.heap.size 40 44 (.slice a q cap) q rs2 xs → Up B w W → ∀ (tm : Array Value), tm.getD 2 undef = .pointer (some ⟨w.heap.size, 0, none⟩) → bodyPost Tryz.prog Tryz.f47 (DrawnRaw B w) .ret ⟨tm, []⟩ W := by
            intro W h1 h2 h3 tm t1
            exact bodyPost_ret (results_cell Tryz.results47 t1 (run_loadVar_mid W w.heap.size 0 24 [.slice a q cap] _ (range_of_box h1) Tryz.underlying24 rfl (by kernel_rfl))) rfl ⟨_, _, _, _, _, _, rfl, h2, hn1, hn3, HG.out, h3⟩
          have kO := box_cells HO2.out 0; have kR := box_cells HR2.out 0; have fR := box_frozen HR2.out
          simp only [List.getElem?_toArray, List.getElem?_cons_zero] at kO kR
          have hsz := box_lt HO2.out
          go_wp2_with fail
          refine fin _ ?_ ?_ ?_ _ rfl
          · apply hset_eq (hset_set HR2.out); simp only [List.setIfInBounds_toArray, List.set_cons_zero]
          · exact (HS2.out.set (by simp; omega) _).le (by omega)
          · exact hu2.below hBl ((Below.refl w.heap.size _).setCell (by simp) _) (Nat.le_refl _)
theorem fldSum_mul {xs : List Shp} {m : Nat} (h : ∀ x ∈ xs, x.flds.length ≤ m) : fldSum xs ≤ m * xs.length := by
  induction xs with
  | nil => simp [fldSum]
  | cons x xs ih =>
    have h1 := ih fun y hy => h y (List.mem_cons_of_mem _ hy)
    have h2 := h x (List.mem_cons_self ..)
    simp only [fldSum, List.map_cons, List.sum_cons, List.length_cons, Nat.mul_succ] at h1 ⊢
    omega
theorem w64_of {u : Int} (h0 : -1000000000 ≤ u) (h1 : u ≤ 1000000000) : W64 u := by
  unfold W64; simp [Lit.wf, IntKind.min, IntKind.max, IntKind.signed, IntKind.bits]; omega
structure SchG (xs : List Shp) : Prop where
  len : ∀ x ∈ xs, x.flds.length ≤ 5
  ok : ∀ x ∈ xs, ShpOk x
  msg : ∀ x ∈ xs, ∀ f ∈ x.flds, f.kind = 8 → 0 ≤ f.msg ∧ f.msg < xs.length
theorem SchG.sum {xs : List Shp} (h : SchG xs) (hl : xs.length ≤ 1000) : fldSum xs ≤ 1048576 := Nat.le_trans (fldSum_mul h.len) (by omega)
theorem numOk_le {n : Int} (h : numOk n = true) : 1 ≤ n ∧ n ≤ 536870911 := by
  simp only [numOk, inB, Bool.and_eq_true, decide_eq_true_eq] at h; exact h.1
theorem inB_le {x a b : Int} (h : inB x a b = true) : a ≤ x ∧ x ≤ b := by simpa [inB] using h
theorem RawGood.len5 {ids : List Int} {i : Nat} {xs : List Shp} (h : RawGood ids i 0 xs) {x : Shp} (hx : x ∈ xs) : x.flds.length ≤ 5 := by
  obtain ⟨j, hj, rfl⟩ := List.getElem_of_mem hx
  have := h.len j xs[j] (List.getElem?_eq_getElem hj)
  split at this <;> (try split at this) <;> omega
theorem RawGood.id99 {ids : List Int} {i : Nat} {xs : List Shp} (h : RawGood ids i 0 xs) (hids : ∀ k ∈ ids, 1 ≤ k ∧ k ≤ 99) {x : Shp} (hx : x ∈ xs) : 1 ≤ x.id ∧ x.id ≤ 99 := by
  refine hids x.id ?_
  rw [← h.ids_]
  exact List.mem_map_of_mem hx
theorem idL_ok (n : Nat) : ∀ k ∈ idL.take n, 1 ≤ k ∧ k ≤ 99 := by
  intro k hk
  have := List.mem_of_mem_take hk
  simp only [idL, List.mem_cons, List.not_mem_nil, or_false] at this
  rcases this with rfl | rfl | rfl <;> omega
end Go.Proofs.YtbjbgneiglopmaaGreatDoor
namespace Go.Proofs.YtbjbgneiglopmaaGreatDoor
set_option linter.unusedSimpArgs false
set_option linter.unusedVariables false
open Go.ChangeShapes Go.WideShapes Go.ChangeAt Go.RowKit Go.BigFrame
theorem owns_setBox {w : World} {base n size S o : Nat} {t TS : TypeId} {v : Value} {L : List Value} {cs : Array Value} (h : w.ownsRow base t size v n L) (hS : w.heap[S]? = some (.cells cs TS (0, 0))) (hne : TS ≠ t) (u : Value) : (w.setCell ⟨S, o, none⟩ u).ownsRow base t size v n L := by
  refine h.kept (row := some S) ⟨rfl, rfl, rfl, by simp, fun k _ hk => heap_setCell_other w ⟨S, o, none⟩ k u (fun e => hk (by simp [e]))⟩ (.inr fun e => ?_)
  obtain ⟨c, hc⟩ := own_box h e
  rw [hS] at hc
  simp at hc
  exact hne hc.2
theorem OwnShs.setBox {w : World} {base n S o : Nat} {T TF TS : TypeId} {v : Value} {rs : List ShR} {xs : List Shp} {cs : Array Value} (h : OwnShs w base T TF v n rs xs) (hS : w.heap[S]? = some (.cells cs TS (0, 0))) (h1 : TS ≠ T) (h2 : TS ≠ TF) (u : Value) : OwnShs (w.setCell ⟨S, o, none⟩ u) base T TF v n rs xs :=
  ⟨h.len, h.lenx, owns_setBox h.outer hS h1 u, fun k r x hr hx => ⟨(h.each k r x hr hx).1, (h.each k r x hr hx).2.1, owns_setBox (h.each k r x hr hx).2.2 hS h2 u⟩, h.apart⟩
theorem Cells.oth {l : List (Addr × Value)} {w w' : World} {B : Nat} (h : Cells l w) (ho : Oth B w w') (hB : ∀ q ∈ l, q.1.block ≠ B) : Cells l w' := fun q hq => by
  have hlt := World.block_lt_of_cell? w _ (h q hq)
  exact (World.cell?_of_block (ho.block hlt (hB q hq))).trans (h q hq)
structure SchB (xs : List Shp) : Prop where
  n : xs.length ≤ 7
  len : ∀ x ∈ xs, x.flds.length ≤ 6
  ok : ∀ x ∈ xs, ShpOk x
theorem SchB.sum {xs : List Shp} (h : SchB xs) : fldSum xs ≤ 1048576 := Nat.le_trans (fldSum_mul h.len) (by have := h.n; omega)
theorem SchB.set {xs : List Shp} (h : SchB xs) (q : Nat) {x : Shp} (h1 : x.flds.length ≤ 6) (h2 : ShpOk x) : SchB (xs.set q x) := by
  refine ⟨by simpa using h.n, fun y hy => ?_, fun y hy => ?_⟩ <;> rcases List.mem_or_eq_of_mem_set hy with h' | rfl
  · exact h.len y h'
  · exact h1
  · exact h.ok y h'
  · exact h2
theorem SchB.push {xs : List Shp} (h : SchB xs) (hn : xs.length < 7) {i : Int} (hi : W64 i) : SchB (xs ++ [⟨i, []⟩]) := by
  refine ⟨by simp; omega, fun y hy => ?_, fun y hy => ?_⟩ <;> rcases List.mem_append.1 hy with h' | h'
  · exact h.len y h'
  · simp at h'; subst h'; simp
  · exact h.ok y h'
  · simp at h'; subst h'; exact ⟨hi, by simp, fun f hf => by cases hf⟩
end Go.Proofs.YtbjbgneiglopmaaGreatDoor

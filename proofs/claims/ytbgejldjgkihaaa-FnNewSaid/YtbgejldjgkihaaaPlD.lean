/- Draws of plans. (Printed by wip/tools/pldgen.py.) -/
import Derived.Test.YtbgejldjgkihaaaL8B
import Derived.Test.YtbgejldjgkihaaaPlan
namespace Go.Proofs.Ytbgejldjgkihaaa
set_option linter.unusedSimpArgs false
set_option linter.unusedVariables false
open Go.ChangeShapes Go.WideShapes Go.ChangeAt Go.RowKit Go.BigFrame

/-- A valid plan in new memory. -/
def DrawnPl (B : Nat) (w : World) (r : Ending) (w' : World) : Prop :=
  ∃ (p : Pl) (a : Option Addr) (n cap : Nat) (rs : List ShR) (xs : List Shp), r = .returned (p.val (.slice a n cap)) ∧ OwnShs w' w.heap.size 43 47 (.slice a n cap) n rs xs ∧ 1 ≤ n ∧ n ≤ 3 ∧ SchG xs ∧ 0 ≤ p.root ∧ p.root < n ∧ 1 ≤ p.deep ∧ p.deep ≤ 4 ∧ 0 ≤ p.most ∧ p.most ≤ 2000 ∧ Up B w w'
/-- The schema of the plan, in its box. -/
structure MidP (w : World) (B : Nat) (S : Nat) (a : Option Addr) (n cap : Nat) (rs : List ShR) (xs : List Shp) (wx : World) : Prop where
  own : OwnShs wx (w.heap.size + 1) 43 47 (.slice a n cap) n rs xs
  res : wx.heap[w.heap.size]? = some (.cells #[.slice none 0 0, .int .i64 0, .int .i64 0, .int .i64 0] 55 (0, 0))
  box : wx.heap[S]? = some (.cells #[.slice a n cap] 30 (0, 0))
  up : Up B w wx
section
variable {w : World} {B S : Nat} {a : Option Addr} {n cap : Nat} {rs : List ShR} {xs : List Shp} {wx wy : World}
theorem MidP.step (h : MidP w B S a n cap rs xs wx) (hB : B < w.heap.size) (hS : w.heap.size < S) (hc : Cur wy B) (ho : Oth B wx wy) : MidP w B S a n cap rs xs wy :=
  ⟨h.own.oth ho (by omega), (ho.block (box_lt h.res) (by omega)).trans h.res, (ho.block (box_lt h.box) (by omega)).trans h.box, h.up.step hc ho⟩
theorem MidP.below (h : MidP w B S a n cap rs xs wx) (hB : B < w.heap.size) (hb : Below wx.heap.size wx wy) : MidP w B S a n cap rs xs wy :=
  ⟨h.own.below hb (Nat.le_refl _), (hb.block _ (box_lt h.res)).trans h.res, (hb.block _ (box_lt h.box)).trans h.box, h.up.below hB hb h.up.oth.size⟩
end
set_option maxRecDepth 100000 in
set_option maxHeartbeats 4000000 in
theorem l12Plan_any (B : Nat) (w : World) (hc : Cur w B) : Calls Try.prog 116 #[.pointer (some ⟨B, 0, none⟩)] w (DrawnPl B w) := by
  have hBl := hc.lt
  go_enter Try.func116, Try.ntmps116
  go_wp2_with fail
  refine (l8Right_any B _ (hc.below (by ((repeat (first | (with_reducible exact Below.refl _ _) | (with_reducible assumption) | (with_reducible refine Below.alloc ?_ ?_ _) | (with_reducible refine Below.setCell ?_ ?_ _) | (with_reducible refine Below.drew ?_) | (with_reducible refine below_setRow ?_ ?_ _) | (refine Below.trans ?_ (Below.mono (by assumption) ?_)))); all_goals (first | omega | (simp; done) | (simp; omega)))))).mono ?_
  rintro r w1 ⟨a, n, cap, rs, xs, rfl, ho, h1, h3, hg, hu⟩
  have hz1 := hu.oth.size
  simp only [World.size_alloc] at hz1
  have hM1 : MidP w B w1.heap.size a n cap rs xs (w1.alloc (.cells #[.slice a n cap] 30)) :=
    ⟨(ho.le (by simp)).alloc _, hset_alloc ((hu.oth.block (b := w.heap.size) (by simp) (by omega)).trans (hset_new (o := .cells #[.slice none 0 0, .int .i64 0, .int .i64 0, .int .i64 0] 55) rfl)), hset_new rfl, (((Up.refl hc).alloc hBl _).step hu.cur hu.oth).alloc hBl _⟩
  obtain ⟨S, hS⟩ : ∃ S, w1.heap.size = S := ⟨_, rfl⟩
  rw [hS] at hM1
  have HG := Lib.hid hg; clear hg ho hu
  have hSl : w.heap.size < S := by omega
  have hSB : S ≠ B := by omega
  have fin : ∀ (W : World) (x5 x7 y : Int), MidP w B S a n cap rs xs W → 0 ≤ x5 → x5 ≤ (n : Int) - 1 → 0 ≤ x7 → x7 ≤ 4 - 1 → 0 ≤ y ∧ y ≤ 2000 → ∀ (tm : Array Value), tm.getD 2 undef = .pointer (some ⟨w.heap.size, 0, none⟩) → bodyPost Try.prog Try.f116 (DrawnPl B w) .ret ⟨tm, []⟩ ((((W.setCell ⟨w.heap.size, 0, none⟩ (.slice a n cap)).setCell ⟨w.heap.size, 1, none⟩ (.int .i64 x5)).setCell ⟨w.heap.size, 2, none⟩ (.int .i64 (1 + x7))).setCell ⟨w.heap.size, 3, none⟩ (.int .i64 y)) := by
    intro W x5 x7 y h h50 h51 h70 h71 hy tm t1
    refine bodyPost_ret (results_cell Try.results116 t1 (run_loadVar_mid _ w.heap.size 0 55 [.slice a n cap, .int .i64 x5, .int .i64 (1 + x7), .int .i64 y] _ (range_of_box (t := 55) ?_) Try.underlying55 rfl (by kernel_rfl))) rfl ⟨⟨x5, 1 + x7, y⟩, _, _, _, _, _, rfl, ((((h.own.set (by simp) _).set (by simp) _).set (by simp) _).set (by simp) _).le (by omega), h1, h3, HG.out, h50, by simp only; omega, by simp only; omega, by simp only; omega, hy.1, hy.2, h.up.below hBl (((((Below.refl w.heap.size _).setCell (by simp) _).setCell (by simp) _).setCell (by simp) _).setCell (by simp) _) (Nat.le_refl _)⟩
    apply hset_eq (hset_set (hset_set (hset_set (hset_set h.res)))); simp only [List.setIfInBounds_toArray, List.set_cons_zero, List.set_cons_succ]
  have seen : ∀ (W : World), MidP w B S a n cap rs xs W → W.cell? ⟨w.heap.size, 0, none⟩ = some (.slice none 0 0) ∧ W.cell? ⟨w.heap.size, 1, none⟩ = some (.int .i64 0) ∧ W.cell? ⟨w.heap.size, 2, none⟩ = some (.int .i64 0) ∧ W.cell? ⟨w.heap.size, 3, none⟩ = some (.int .i64 0) ∧ (∀ j, W.frozen? ⟨w.heap.size, j, none⟩ = false) := fun W h => ⟨box_cells h.res 0, box_cells h.res 1, box_cells h.res 2, box_cells h.res 3, box_frozen h.res⟩
  have far : ∀ (j : Nat) {W : World}, MidP w B S a n cap rs xs W → ∀ q ∈ ([(⟨S, 0, none⟩, .slice a n cap)] : List (Addr × Value)), (⟨w.heap.size, j, none⟩ : Addr).block ≠ q.1.block := by
    intro j W h q hq; simp only [List.mem_cons, List.not_mem_nil, or_false] at hq; subst hq; simp only; omega
  have kS := box_cells hM1.box 0
  simp only [List.getElem?_toArray, List.getElem?_cons_zero] at kS
  have HM0 := Lib.hid hM1; clear hM1
  go_upto_region 2 with fail
  try simp only [hS]
  refine wp_region_till (Cells [(⟨S, 0, none⟩, .slice a n cap)]) (fun _ => false) (by kernel_rfl) ?_
  have hS0 : Cells [(⟨S, 0, none⟩, .slice a n cap)] (w1.alloc (.cells #[.slice a n cap] 30)).drew := cells_mk kS (cells_no _)
  obtain ⟨W0, hW0⟩ : ∃ W0 : World, W0 = w1.alloc (.cells #[.slice a n cap] 30) := ⟨_, rfl⟩
  rw [← hW0] at HM0 hS0 ⊢
  clear kS hW0 hS
  have hS := hS0; clear hS0
  have HM := Lib.hid (HM0.out.below (wy := W0.drew) hBl (Below.refl _ _).drew)
  refine wpTill_take (i := 0) (v := ?v0_1) rfl (by kernel_rfl) (by kernel_rfl) (by kernel_rfl) (by kernel_rfl) (fun _ _ _ h => h) (Or.inl ⟨by rfl, ?y0_1⟩) hS ?r0_1
  case y0_1 => (intro wq hq; (try simp only [cells_cons, cells_nil, and_true] at hq); first | (go_simp; done) | (go_simp; with_reducible rfl) | (obtain ⟨hq1, hq2⟩ := hq; go_simp; with_reducible rfl))
  try simp only [List.getElem_toArray, List.getElem_cons_succ, List.getElem_cons_zero, Act.put, List.setIfInBounds_toArray, List.set_cons_zero, List.set_cons_succ]
  refine wpTill_take (i := 1) (v := ?v1_2) rfl (by kernel_rfl) (by kernel_rfl) (by kernel_rfl) (by kernel_rfl) (fun _ _ _ h => h) (Or.inl ⟨by rfl, ?y1_2⟩) hS ?r1_2
  case y1_2 => (intro wq hq; (try simp only [cells_cons, cells_nil, and_true] at hq); first | (go_simp; done) | (go_simp; with_reducible rfl) | (obtain ⟨hq1, hq2⟩ := hq; go_simp; with_reducible rfl))
  try simp only [List.getElem_toArray, List.getElem_cons_succ, List.getElem_cons_zero, Act.put, List.setIfInBounds_toArray, List.set_cons_zero, List.set_cons_succ]
  refine wpTill_take (i := 2) (v := ?v2_3) rfl (by kernel_rfl) (by kernel_rfl) (by kernel_rfl) (by kernel_rfl) (fun _ _ _ h => h) (Or.inl ⟨by rfl, ?y2_3⟩) hS ?r2_3
  case y2_3 => (intro wq hq; (try simp only [cells_cons, cells_nil, and_true] at hq); first | (go_simp; done) | (go_simp; with_reducible rfl) | (obtain ⟨hq1, hq2⟩ := hq; go_simp; with_reducible rfl))
  try simp only [List.getElem_toArray, List.getElem_cons_succ, List.getElem_cons_zero, Act.put, List.setIfInBounds_toArray, List.set_cons_zero, List.set_cons_succ]
  refine wpTill_take (i := 3) (v := ?v3_4) rfl (by kernel_rfl) (by kernel_rfl) (by kernel_rfl) (by kernel_rfl) (fun _ _ _ h => h) (Or.inl ⟨by rfl, ?y3_4⟩) hS ?r3_4
  case y3_4 => (intro wq hq; (try simp only [cells_cons, cells_nil, and_true] at hq); first | (go_simp; done) | (go_simp; with_reducible rfl) | (obtain ⟨hq1, hq2⟩ := hq; go_simp; with_reducible rfl))
  try simp only [List.getElem_toArray, List.getElem_cons_succ, List.getElem_cons_zero, Act.put, List.setIfInBounds_toArray, List.set_cons_zero, List.set_cons_succ]
  refine wpTill_take (i := 4) (v := ?v4_5) rfl (by kernel_rfl) (by kernel_rfl) (by kernel_rfl) (by kernel_rfl) (fun _ _ _ h => h) (Or.inl ⟨by rfl, ?y4_5⟩) hS ?r4_5
  case y4_5 => (intro wq hq; (try simp only [cells_cons, cells_nil, and_true] at hq); first | (go_simp; done) | (go_simp; with_reducible rfl) | (obtain ⟨hq1, hq2⟩ := hq; go_simp; with_reducible rfl))
  try simp only [List.getElem_toArray, List.getElem_cons_succ, List.getElem_cons_zero, Act.put, List.setIfInBounds_toArray, List.set_cons_zero, List.set_cons_succ]
  refine wpTill_take (i := 6) (v := ?v6_6) rfl (by kernel_rfl) (by kernel_rfl) (by kernel_rfl) (by kernel_rfl) (fun _ _ _ h => h) (Or.inl ⟨by rfl, ?y6_6⟩) hS ?r6_6
  case y6_6 => (intro wq hq; (try simp only [cells_cons, cells_nil, and_true] at hq); first | (go_simp; done) | (go_simp; with_reducible rfl) | (obtain ⟨hq1, hq2⟩ := hq; go_simp; with_reducible rfl))
  try simp only [List.getElem_toArray, List.getElem_cons_succ, List.getElem_cons_zero, Act.put, List.setIfInBounds_toArray, List.set_cons_zero, List.set_cons_succ]
  refine wpTill_take (i := 9) (v := ?v9_7) rfl (by kernel_rfl) (by kernel_rfl) (by kernel_rfl) (by kernel_rfl) (fun _ _ _ h => h) (Or.inl ⟨by rfl, ?y9_7⟩) hS ?r9_7
  case y9_7 => (intro wq hq; (try simp only [cells_cons, cells_nil, and_true] at hq); first | (go_simp; done) | (go_simp; with_reducible rfl) | (obtain ⟨hq1, hq2⟩ := hq; go_simp; with_reducible rfl))
  try simp only [List.getElem_toArray, List.getElem_cons_succ, List.getElem_cons_zero, Act.put, List.setIfInBounds_toArray, List.set_cons_zero, List.set_cons_succ]
  refine wpTill_two (i := 5) (j := 10) (by kernel_rfl) rfl rfl (fun K hK => ?_) (fun K hK => ?_)
  · go_simp
    refine (l1Below_any B n _ HM.out.up.cur (by omega) (by omega)).mono ?_
    rintro r v5 ⟨x5, rfl, h50, h51, hc5, ho5⟩
    have HM' := Lib.hid (HM.out.step hBl hSl hc5 ho5); clear HM; have HM := HM'; clear HM'
    have hS' := hS.oth ho5 (by intro q hq; simp only [List.mem_cons, List.not_mem_nil, or_false] at hq; subst hq; exact hSB); clear hS; have hS := hS'; clear hS'
    refine hK.out _ _ (fun _ => hS) ?_
    clear hK K
    try simp only [List.getElem_toArray, List.getElem_cons_succ, List.getElem_cons_zero, Act.put, List.setIfInBounds_toArray, List.set_cons_zero, List.set_cons_succ]
    refine wpTill_two (i := 7) (j := 10) (by kernel_rfl) rfl rfl (fun K hK => ?_) (fun K hK => ?_)
    · go_simp
      refine (l1Below_any B 4 _ HM.out.up.cur (by omega) (by omega)).mono ?_
      rintro r v7 ⟨x7, rfl, h70, h71, hc7, ho7⟩
      have HM' := Lib.hid (HM.out.step hBl hSl hc7 ho7); clear HM; have HM := HM'; clear HM'
      have hS' := hS.oth ho7 (by intro q hq; simp only [List.mem_cons, List.not_mem_nil, or_false] at hq; subst hq; exact hSB); clear hS; have hS := hS'; clear hS'
      refine hK.out _ _ (fun _ => hS) ?_
      clear hK K
      try simp only [List.getElem_toArray, List.getElem_cons_succ, List.getElem_cons_zero, Act.put, List.setIfInBounds_toArray, List.set_cons_zero, List.set_cons_succ]
      have hw8 : IntKind.i64.wrap (1 + x7) = 1 + x7 := by rw [IntKind.wrap_i64]; omega
      refine wpTill_take (i := 8) (v := ?v8_8) rfl (by kernel_rfl) (by kernel_rfl) (by kernel_rfl) (by kernel_rfl) (fun _ _ _ h => h) (Or.inl ⟨by rfl, ?y8_8⟩) hS ?r8_8
      case y8_8 => (intro wq hq; (try simp only [cells_cons, cells_nil, and_true] at hq); first | (go_simp; done) | (go_simp; with_reducible rfl) | (obtain ⟨hq1, hq2⟩ := hq; go_simp; with_reducible rfl))
      try simp only [List.getElem_toArray, List.getElem_cons_succ, List.getElem_cons_zero, Act.put, List.setIfInBounds_toArray, List.set_cons_zero, List.set_cons_succ]
      clear hw8
      refine wpTill_op (i := 10) (by kernel_rfl) rfl (fun K hK => ?_)
      go_simp
      have hGB : v7.heap.size ≠ B := by have := HM.out.up.oth.size; omega
      have HM' := Lib.hid (HM.out.below (wy := (v7.alloc (.cells #[.int .i64 60, .int .i64 60, .int .i64 2000, .int .i64 200, .int .i64 5, .int .i64 0] 3))) hBl (((Below.refl _ _).alloc (Nat.le_refl _) _))); clear HM; have HM := HM'; clear HM'
      have hS' : Cells [(⟨S, 0, none⟩, .slice a n cap)] (v7.alloc (.cells #[.int .i64 60, .int .i64 60, .int .i64 2000, .int .i64 200, .int .i64 5, .int .i64 0] 3)) := (hS.alloc _); clear hS; have hS := hS'; clear hS'
      have hG : (v7.alloc (.cells #[.int .i64 60, .int .i64 60, .int .i64 2000, .int .i64 200, .int .i64 5, .int .i64 0] 3)).heap[v7.heap.size]? = some (.cells #[.int .i64 60, .int .i64 60, .int .i64 2000, .int .i64 200, .int .i64 5, .int .i64 0] 3 (0, 0)) := hset_new rfl
      refine hK.out _ _ (fun _ => hS) ?_
      clear hK K
      try simp only [List.getElem_toArray, List.getElem_cons_succ, List.getElem_cons_zero, Act.put, List.setIfInBounds_toArray, List.set_cons_zero, List.set_cons_succ]
      refine wpTill_op (i := 11) (by kernel_rfl) rfl (fun K hK => ?_)
      go_simp
      refine (l1PickInt_in B v7.heap.size 6 [60, 60, 2000, 200, 5, 0] 3 _ HM.out.up.cur hGB hG (by decide) (by decide)).mono ?_
      rintro r v11 ⟨y, rfl, hy, hc11, ho11⟩
      have HM' := Lib.hid (HM.out.step hBl hSl hc11 ho11); clear HM; have HM := HM'; clear HM'
      have hS' := hS.oth ho11 (by intro q hq; simp only [List.mem_cons, List.not_mem_nil, or_false] at hq; subst hq; exact hSB); clear hS; have hS := hS'; clear hS'
      have hy2 : 0 ≤ y ∧ y ≤ 2000 := by simp only [List.mem_cons, List.not_mem_nil, or_false] at hy; omega
      clear hy hG hGB hc11 ho11
      refine hK.out _ _ (fun _ => hS) ?_
      clear hK K
      try simp only [List.getElem_toArray, List.getElem_cons_succ, List.getElem_cons_zero, Act.put, List.setIfInBounds_toArray, List.set_cons_zero, List.set_cons_succ]
      refine wpTill_op (i := 12) (by kernel_rfl) rfl (fun K hK => ?_)
      go_simp
      refine hK.out _ _ (fun _ => hS) ?_
      clear hK K
      try simp only [List.getElem_toArray, List.getElem_cons_succ, List.getElem_cons_zero, Act.put, List.setIfInBounds_toArray, List.set_cons_zero, List.set_cons_succ]
      obtain ⟨k0, k1, k2, k3, fR⟩ := seen _ HM.out
      refine wpTill_op (i := 13) (by kernel_rfl) rfl (fun K hK => ?_)
      go_simp
      refine hK.out _ _ (fun _ => ((((hS.setCell (far 0 HM.out) _).setCell (far 1 HM.out) _).setCell (far 2 HM.out) _).setCell (far 3 HM.out) _)) ?_
      clear hK K
      refine wpTill_done (by kernel_rfl) ?_ _
      go_wp2_with fail
      exact fin _ x5 x7 y HM.out h50 h51 h70 h71 hy2 _ rfl
    · go_simp
      have hGB : v5.heap.size ≠ B := by have := HM.out.up.oth.size; omega
      have HM' := Lib.hid (HM.out.below (wy := (v5.alloc (.cells #[.int .i64 60, .int .i64 60, .int .i64 2000, .int .i64 200, .int .i64 5, .int .i64 0] 3))) hBl (((Below.refl _ _).alloc (Nat.le_refl _) _))); clear HM; have HM := HM'; clear HM'
      have hS' : Cells [(⟨S, 0, none⟩, .slice a n cap)] (v5.alloc (.cells #[.int .i64 60, .int .i64 60, .int .i64 2000, .int .i64 200, .int .i64 5, .int .i64 0] 3)) := (hS.alloc _); clear hS; have hS := hS'; clear hS'
      have hG : (v5.alloc (.cells #[.int .i64 60, .int .i64 60, .int .i64 2000, .int .i64 200, .int .i64 5, .int .i64 0] 3)).heap[v5.heap.size]? = some (.cells #[.int .i64 60, .int .i64 60, .int .i64 2000, .int .i64 200, .int .i64 5, .int .i64 0] 3 (0, 0)) := hset_new rfl
      refine hK.out _ _ (fun _ => hS) ?_
      clear hK K
      try simp only [List.getElem_toArray, List.getElem_cons_succ, List.getElem_cons_zero, Act.put, List.setIfInBounds_toArray, List.set_cons_zero, List.set_cons_succ]
      refine wpTill_op (i := 7) (by kernel_rfl) rfl (fun K hK => ?_)
      go_simp
      refine (l1Below_any B 4 _ HM.out.up.cur (by omega) (by omega)).mono ?_
      rintro r v7 ⟨x7, rfl, h70, h71, hc7, ho7⟩
      have HM' := Lib.hid (HM.out.step hBl hSl hc7 ho7); clear HM; have HM := HM'; clear HM'
      have hS' := hS.oth ho7 (by intro q hq; simp only [List.mem_cons, List.not_mem_nil, or_false] at hq; subst hq; exact hSB); clear hS; have hS := hS'; clear hS'
      have hG' := (ho7.block (box_lt hG) hGB).trans hG; clear hG; have hG := hG'; clear hG'
      refine hK.out _ _ (fun _ => hS) ?_
      clear hK K
      try simp only [List.getElem_toArray, List.getElem_cons_succ, List.getElem_cons_zero, Act.put, List.setIfInBounds_toArray, List.set_cons_zero, List.set_cons_succ]
      have hw8 : IntKind.i64.wrap (1 + x7) = 1 + x7 := by rw [IntKind.wrap_i64]; omega
      refine wpTill_take (i := 8) (v := ?v8_9) rfl (by kernel_rfl) (by kernel_rfl) (by kernel_rfl) (by kernel_rfl) (fun _ _ _ h => h) (Or.inl ⟨by rfl, ?y8_9⟩) hS ?r8_9
      case y8_9 => (intro wq hq; (try simp only [cells_cons, cells_nil, and_true] at hq); first | (go_simp; done) | (go_simp; with_reducible rfl) | (obtain ⟨hq1, hq2⟩ := hq; go_simp; with_reducible rfl))
      try simp only [List.getElem_toArray, List.getElem_cons_succ, List.getElem_cons_zero, Act.put, List.setIfInBounds_toArray, List.set_cons_zero, List.set_cons_succ]
      clear hw8
      refine wpTill_op (i := 11) (by kernel_rfl) rfl (fun K hK => ?_)
      go_simp
      refine (l1PickInt_in B v5.heap.size 6 [60, 60, 2000, 200, 5, 0] 3 _ HM.out.up.cur hGB hG (by decide) (by decide)).mono ?_
      rintro r v11 ⟨y, rfl, hy, hc11, ho11⟩
      have HM' := Lib.hid (HM.out.step hBl hSl hc11 ho11); clear HM; have HM := HM'; clear HM'
      have hS' := hS.oth ho11 (by intro q hq; simp only [List.mem_cons, List.not_mem_nil, or_false] at hq; subst hq; exact hSB); clear hS; have hS := hS'; clear hS'
      have hy2 : 0 ≤ y ∧ y ≤ 2000 := by simp only [List.mem_cons, List.not_mem_nil, or_false] at hy; omega
      clear hy hG hGB hc11 ho11
      refine hK.out _ _ (fun _ => hS) ?_
      clear hK K
      try simp only [List.getElem_toArray, List.getElem_cons_succ, List.getElem_cons_zero, Act.put, List.setIfInBounds_toArray, List.set_cons_zero, List.set_cons_succ]
      refine wpTill_op (i := 12) (by kernel_rfl) rfl (fun K hK => ?_)
      go_simp
      refine hK.out _ _ (fun _ => hS) ?_
      clear hK K
      try simp only [List.getElem_toArray, List.getElem_cons_succ, List.getElem_cons_zero, Act.put, List.setIfInBounds_toArray, List.set_cons_zero, List.set_cons_succ]
      obtain ⟨k0, k1, k2, k3, fR⟩ := seen _ HM.out
      refine wpTill_op (i := 13) (by kernel_rfl) rfl (fun K hK => ?_)
      go_simp
      refine hK.out _ _ (fun _ => ((((hS.setCell (far 0 HM.out) _).setCell (far 1 HM.out) _).setCell (far 2 HM.out) _).setCell (far 3 HM.out) _)) ?_
      clear hK K
      refine wpTill_done (by kernel_rfl) ?_ _
      go_wp2_with fail
      exact fin _ x5 x7 y HM.out h50 h51 h70 h71 hy2 _ rfl
  · go_simp
    have hGB : W0.heap.size ≠ B := by have := HM0.out.up.oth.size; omega
    have HM' := Lib.hid (HM0.out.below (wy := (W0.alloc (.cells #[.int .i64 60, .int .i64 60, .int .i64 2000, .int .i64 200, .int .i64 5, .int .i64 0] 3)).drew) hBl (((Below.refl _ _).alloc (Nat.le_refl _) _).drew)); clear HM; have HM := HM'; clear HM'
    have hS' : Cells [(⟨S, 0, none⟩, .slice a n cap)] (W0.alloc (.cells #[.int .i64 60, .int .i64 60, .int .i64 2000, .int .i64 200, .int .i64 5, .int .i64 0] 3)).drew := (hS.alloc _).drew; clear hS; have hS := hS'; clear hS'
    have hG : (W0.alloc (.cells #[.int .i64 60, .int .i64 60, .int .i64 2000, .int .i64 200, .int .i64 5, .int .i64 0] 3)).drew.heap[W0.heap.size]? = some (.cells #[.int .i64 60, .int .i64 60, .int .i64 2000, .int .i64 200, .int .i64 5, .int .i64 0] 3 (0, 0)) := hset_drew (hset_new rfl)
    refine hK.out _ _ (fun _ => hS) ?_
    clear hK K
    try simp only [List.getElem_toArray, List.getElem_cons_succ, List.getElem_cons_zero, Act.put, List.setIfInBounds_toArray, List.set_cons_zero, List.set_cons_succ]
    refine wpTill_op (i := 5) (by kernel_rfl) rfl (fun K hK => ?_)
    go_simp
    refine (l1Below_any B n _ HM.out.up.cur (by omega) (by omega)).mono ?_
    rintro r v5 ⟨x5, rfl, h50, h51, hc5, ho5⟩
    have HM' := Lib.hid (HM.out.step hBl hSl hc5 ho5); clear HM; have HM := HM'; clear HM'
    have hS' := hS.oth ho5 (by intro q hq; simp only [List.mem_cons, List.not_mem_nil, or_false] at hq; subst hq; exact hSB); clear hS; have hS := hS'; clear hS'
    have hG' := (ho5.block (box_lt hG) hGB).trans hG; clear hG; have hG := hG'; clear hG'
    refine hK.out _ _ (fun _ => hS) ?_
    clear hK K
    try simp only [List.getElem_toArray, List.getElem_cons_succ, List.getElem_cons_zero, Act.put, List.setIfInBounds_toArray, List.set_cons_zero, List.set_cons_succ]
    refine wpTill_op (i := 7) (by kernel_rfl) rfl (fun K hK => ?_)
    go_simp
    refine (l1Below_any B 4 _ HM.out.up.cur (by omega) (by omega)).mono ?_
    rintro r v7 ⟨x7, rfl, h70, h71, hc7, ho7⟩
    have HM' := Lib.hid (HM.out.step hBl hSl hc7 ho7); clear HM; have HM := HM'; clear HM'
    have hS' := hS.oth ho7 (by intro q hq; simp only [List.mem_cons, List.not_mem_nil, or_false] at hq; subst hq; exact hSB); clear hS; have hS := hS'; clear hS'
    have hG' := (ho7.block (box_lt hG) hGB).trans hG; clear hG; have hG := hG'; clear hG'
    refine hK.out _ _ (fun _ => hS) ?_
    clear hK K
    try simp only [List.getElem_toArray, List.getElem_cons_succ, List.getElem_cons_zero, Act.put, List.setIfInBounds_toArray, List.set_cons_zero, List.set_cons_succ]
    have hw8 : IntKind.i64.wrap (1 + x7) = 1 + x7 := by rw [IntKind.wrap_i64]; omega
    refine wpTill_take (i := 8) (v := ?v8_10) rfl (by kernel_rfl) (by kernel_rfl) (by kernel_rfl) (by kernel_rfl) (fun _ _ _ h => h) (Or.inl ⟨by rfl, ?y8_10⟩) hS ?r8_10
    case y8_10 => (intro wq hq; (try simp only [cells_cons, cells_nil, and_true] at hq); first | (go_simp; done) | (go_simp; with_reducible rfl) | (obtain ⟨hq1, hq2⟩ := hq; go_simp; with_reducible rfl))
    try simp only [List.getElem_toArray, List.getElem_cons_succ, List.getElem_cons_zero, Act.put, List.setIfInBounds_toArray, List.set_cons_zero, List.set_cons_succ]
    clear hw8
    refine wpTill_op (i := 11) (by kernel_rfl) rfl (fun K hK => ?_)
    go_simp
    refine (l1PickInt_in B W0.heap.size 6 [60, 60, 2000, 200, 5, 0] 3 _ HM.out.up.cur hGB hG (by decide) (by decide)).mono ?_
    rintro r v11 ⟨y, rfl, hy, hc11, ho11⟩
    have HM' := Lib.hid (HM.out.step hBl hSl hc11 ho11); clear HM; have HM := HM'; clear HM'
    have hS' := hS.oth ho11 (by intro q hq; simp only [List.mem_cons, List.not_mem_nil, or_false] at hq; subst hq; exact hSB); clear hS; have hS := hS'; clear hS'
    have hy2 : 0 ≤ y ∧ y ≤ 2000 := by simp only [List.mem_cons, List.not_mem_nil, or_false] at hy; omega
    clear hy hG hGB hc11 ho11
    refine hK.out _ _ (fun _ => hS) ?_
    clear hK K
    try simp only [List.getElem_toArray, List.getElem_cons_succ, List.getElem_cons_zero, Act.put, List.setIfInBounds_toArray, List.set_cons_zero, List.set_cons_succ]
    refine wpTill_op (i := 12) (by kernel_rfl) rfl (fun K hK => ?_)
    go_simp
    refine hK.out _ _ (fun _ => hS) ?_
    clear hK K
    try simp only [List.getElem_toArray, List.getElem_cons_succ, List.getElem_cons_zero, Act.put, List.setIfInBounds_toArray, List.set_cons_zero, List.set_cons_succ]
    obtain ⟨k0, k1, k2, k3, fR⟩ := seen _ HM.out
    refine wpTill_op (i := 13) (by kernel_rfl) rfl (fun K hK => ?_)
    go_simp
    refine hK.out _ _ (fun _ => ((((hS.setCell (far 0 HM.out) _).setCell (far 1 HM.out) _).setCell (far 2 HM.out) _).setCell (far 3 HM.out) _)) ?_
    clear hK K
    refine wpTill_done (by kernel_rfl) ?_ _
    go_wp2_with fail
    exact fin _ x5 x7 y HM.out h50 h51 h70 h71 hy2 _ rfl
/-- A plan in new memory. -/
def DrawnPB (B : Nat) (w : World) (r : Ending) (w' : World) : Prop :=
  ∃ (p : Pl) (a : Option Addr) (n cap : Nat) (rs : List ShR) (xs : List Shp), r = .returned (p.val (.slice a n cap)) ∧ OwnShs w' w.heap.size 43 47 (.slice a n cap) n rs xs ∧ SchB xs ∧ W64 p.root ∧ W64 p.deep ∧ W64 p.most ∧ Up B w w'
structure MidQ (w : World) (B : Nat) (S : Nat) (p : Pl) (a : Option Addr) (n cap : Nat) (rs : List ShR) (xs : List Shp) (wx : World) : Prop where
  own : OwnShs wx (w.heap.size + 1) 43 47 (.slice a n cap) n rs xs
  good : SchB xs
  root : W64 p.root
  deep : W64 p.deep
  most : W64 p.most
  res : wx.heap[w.heap.size]? = some (.cells #[.slice none 0 0, .int .i64 0, .int .i64 0, .int .i64 0] 55 (0, 0))
  box : wx.heap[S]? = some (.cells #[.slice a n cap, .int .i64 p.root, .int .i64 p.deep, .int .i64 p.most] 55 (0, 0))
  up : Up B w wx
section
variable {w : World} {B S : Nat} {p : Pl} {a : Option Addr} {n cap : Nat} {rs : List ShR} {xs : List Shp} {wx wy : World}
theorem MidQ.step (h : MidQ w B S p a n cap rs xs wx) (hB : B < w.heap.size) (hS : w.heap.size < S) (hc : Cur wy B) (ho : Oth B wx wy) : MidQ w B S p a n cap rs xs wy :=
  ⟨h.own.oth ho (by omega), h.good, h.root, h.deep, h.most, (ho.block (box_lt h.res) (by omega)).trans h.res, (ho.block (box_lt h.box) (by omega)).trans h.box, h.up.step hc ho⟩
theorem MidQ.below (h : MidQ w B S p a n cap rs xs wx) (hB : B < w.heap.size) (hb : Below wx.heap.size wx wy) : MidQ w B S p a n cap rs xs wy :=
  ⟨h.own.below hb (Nat.le_refl _), h.good, h.root, h.deep, h.most, (hb.block _ (box_lt h.res)).trans h.res, (hb.block _ (box_lt h.box)).trans h.box, h.up.below hB hb h.up.oth.size⟩
/-- A store into the plan's box. -/
theorem MidQ.put {o : Nat} {u : Value} {q : Pl} {a' : Option Addr} {n' cap' : Nat} {rs' : List ShR} {xs' : List Shp} (h : MidQ w B S p a n cap rs xs wx) (hB : B < w.heap.size) (hS : w.heap.size < S) (own' : OwnShs wx (w.heap.size + 1) 43 47 (.slice a' n' cap') n' rs' xs') (good' : SchB xs') (h1 : W64 q.root) (h2 : W64 q.deep) (h3 : W64 q.most)
    (hc : (#[.slice a n cap, .int .i64 p.root, .int .i64 p.deep, .int .i64 p.most] : Array Value).setIfInBounds o u = #[.slice a' n' cap', .int .i64 q.root, .int .i64 q.deep, .int .i64 q.most]) : MidQ w B S q a' n' cap' rs' xs' (wx.setCell ⟨S, o, none⟩ u) :=
  ⟨own'.setBox h.box (by decide) (by decide) _, good', h1, h2, h3, hset_other h.res (by simp; omega), by apply hset_eq (hset_set h.box); rw [hc], h.up.below hB ((Below.refl (w.heap.size + 1) _).setCell (by simp; omega) _) (by omega)⟩
end
set_option maxRecDepth 100000 in
set_option maxHeartbeats 4000000 in
theorem l12Bent_any (B : Nat) (w : World) (hc : Cur w B) : Calls Try.prog 64 #[.pointer (some ⟨B, 0, none⟩)] w (DrawnPB B w) := by
  have hBl := hc.lt
  go_enter Try.func64, Try.ntmps64
  go_wp2_with fail
  refine (l12Plan_any B _ (hc.below (by ((repeat (first | (with_reducible exact Below.refl _ _) | (with_reducible assumption) | (with_reducible refine Below.alloc ?_ ?_ _) | (with_reducible refine Below.setCell ?_ ?_ _) | (with_reducible refine Below.drew ?_) | (with_reducible refine below_setRow ?_ ?_ _) | (refine Below.trans ?_ (Below.mono (by assumption) ?_)))); all_goals (first | omega | (simp; done) | (simp; omega)))))).mono ?_
  rintro r w1 ⟨p, a, n, cap, rs, xs, rfl, ho, h1, h3, hg, hr0, hr1, hd0, hd1, hm0, hm1, hu⟩
  have hz1 := hu.oth.size
  simp only [World.size_alloc] at hz1
  have hxl := ho.lenx
  have hM1 : MidQ w B w1.heap.size p a n cap rs xs (w1.alloc (.cells #[.slice a n cap, .int .i64 p.root, .int .i64 p.deep, .int .i64 p.most] 55)) :=
    ⟨(ho.le (by simp)).alloc _, hg.bent (by omega), w64_of (by omega) (by omega), w64_of (by omega) (by omega), w64_of (by omega) (by omega), hset_alloc ((hu.oth.block (b := w.heap.size) (by simp) (by omega)).trans (hset_new (o := .cells #[.slice none 0 0, .int .i64 0, .int .i64 0, .int .i64 0] 55) rfl)), hset_new rfl, (((Up.refl hc).alloc hBl _).step hu.cur hu.oth).alloc hBl _⟩
  obtain ⟨S, hS⟩ : ∃ S, w1.heap.size = S := ⟨_, rfl⟩
  rw [hS] at hM1
  have hSl : w.heap.size < S := by omega
  have HM1 := Lib.hid hM1; clear hM1 ho hu hg hr0 hr1 hd0 hd1 hm0 hm1 hxl
  have fin : ∀ (W : World) (p : Pl) (a : Option Addr) (n cap : Nat) (rs : List ShR) (xs : List Shp), MidQ w B S p a n cap rs xs W → ∀ (tm : Array Value), tm.getD 2 undef = .pointer (some ⟨w.heap.size, 0, none⟩) → bodyPost Try.prog Try.f64 (DrawnPB B w) .ret ⟨tm, []⟩ ((((W.setCell ⟨w.heap.size, 0, none⟩ (.slice a n cap)).setCell ⟨w.heap.size, 1, none⟩ (.int .i64 p.root)).setCell ⟨w.heap.size, 2, none⟩ (.int .i64 p.deep)).setCell ⟨w.heap.size, 3, none⟩ (.int .i64 p.most)) := by
    intro W p a n cap rs xs h tm t1
    refine bodyPost_ret (results_cell Try.results64 t1 (run_loadVar_mid _ w.heap.size 0 55 [.slice a n cap, .int .i64 p.root, .int .i64 p.deep, .int .i64 p.most] _ (range_of_box (t := 55) ?_) Try.underlying55 rfl (by kernel_rfl))) rfl ⟨p, _, _, _, _, _, rfl, ((((h.own.set (by simp) _).set (by simp) _).set (by simp) _).set (by simp) _).le (by omega), h.good, h.root, h.deep, h.most, h.up.below hBl (((((Below.refl w.heap.size _).setCell (by simp) _).setCell (by simp) _).setCell (by simp) _).setCell (by simp) _) (Nat.le_refl _)⟩
    apply hset_eq (hset_set (hset_set (hset_set (hset_set h.res)))); simp only [List.setIfInBounds_toArray, List.set_cons_zero, List.set_cons_succ]
  have seen : ∀ (W : World) (p : Pl) (a : Option Addr) (n cap : Nat) (rs : List ShR) (xs : List Shp), MidQ w B S p a n cap rs xs W → (W.cell? ⟨w.heap.size, 0, none⟩ = some (.slice none 0 0) ∧ W.cell? ⟨w.heap.size, 1, none⟩ = some (.int .i64 0) ∧ W.cell? ⟨w.heap.size, 2, none⟩ = some (.int .i64 0) ∧ W.cell? ⟨w.heap.size, 3, none⟩ = some (.int .i64 0) ∧ (∀ j, W.frozen? ⟨w.heap.size, j, none⟩ = false)) ∧ (W.cell? ⟨S, 0, none⟩ = some (.slice a n cap) ∧ W.cell? ⟨S, 1, none⟩ = some (.int .i64 p.root) ∧ W.cell? ⟨S, 2, none⟩ = some (.int .i64 p.deep) ∧ W.cell? ⟨S, 3, none⟩ = some (.int .i64 p.most) ∧ (∀ j, W.frozen? ⟨S, j, none⟩ = false)) :=
    fun W p a n cap rs xs h => ⟨⟨box_cells h.res 0, box_cells h.res 1, box_cells h.res 2, box_cells h.res 3, box_frozen h.res⟩, ⟨box_cells h.box 0, box_cells h.box 1, box_cells h.box 2, box_cells h.box 3, box_frozen h.box⟩⟩
  go_wp2_with fail
  refine (l1Below_any B 10 _ HM1.out.up.cur (by omega) (by omega)).mono ?_
  rintro r w3 ⟨y, rfl, hy0, hy1, hc3, ho3⟩
  have HM := Lib.hid (HM1.out.step hBl hSl hc3 ho3); clear HM1 hc3 ho3
  try simp only [hS]
  clear hS hz1
  have hzS := HM.out.up.oth.size
  obtain ⟨⟨r0, r1, r2, r3, fR⟩, ⟨s0, s1, s2, s3, fS⟩⟩ := seen _ _ _ _ _ _ _ HM.out
  rcases (show y = 0 ∨ y = 1 ∨ y = 2 ∨ y = 3 ∨ 4 ≤ y by omega) with rfl | rfl | rfl | rfl | h4
  · go_wp2_with fail
    refine (l8Bent_any B _ HM.out.up.cur).mono ?_
    rintro r w4 ⟨a4, n4, cap4, rs4, xs4, rfl, ho4, hg4, hu4⟩
    have HM4 := Lib.hid (HM.out.step hBl hSl hu4.cur hu4.oth)
    have HMF := Lib.hid (HM4.out.put (o := 0) (u := .slice a4 n4 cap4) (q := p) hBl hSl (ho4.le (by have := box_lt HM.out.res; omega)) hg4 HM4.out.root HM4.out.deep HM4.out.most rfl)
    clear r0 r1 r2 r3 fR s0 s1 s2 s3 fS ho4 hu4
    obtain ⟨⟨r0, r1, r2, r3, fR⟩, ⟨s0, s1, s2, s3, fS⟩⟩ := seen _ _ _ _ _ _ _ HM4.out
    go_wp2_with fail
    exact fin _ _ _ _ _ _ _ HMF.out _ rfl
  · go_wp2_with fail
    have hMa := HM.out.below (wy := w3.alloc (.cells #[.int .i64 (-1), .int .i64 0, .int .i64 3, .int .i64 9223372036854775807] 3)) hBl ((Below.refl _ _).alloc (Nat.le_refl _) _)
    refine (l1PickInt_in B w3.heap.size 4 [-1, 0, 3, 9223372036854775807] 3 _ hMa.up.cur (by omega) (hset_new rfl) (by decide) (by decide)).mono ?_
    rintro r w4 ⟨x, rfl, hx, hc4, ho4⟩
    have hw : W64 x := by
      simp only [List.mem_cons, List.not_mem_nil, or_false] at hx
      rcases hx with rfl | rfl | rfl | rfl <;> exact w64_lim (by omega) (by omega)
    have HM4 := Lib.hid (hMa.step hBl hSl hc4 ho4)
    have HMF := Lib.hid (HM4.out.put (o := 1) (u := .int .i64 x) (q := ⟨x, p.deep, p.most⟩) hBl hSl HM4.out.own HM4.out.good hw HM4.out.deep HM4.out.most rfl)
    clear r0 r1 r2 r3 fR s0 s1 s2 s3 fS hx hw hc4 ho4 hMa
    obtain ⟨⟨r0, r1, r2, r3, fR⟩, ⟨s0, s1, s2, s3, fS⟩⟩ := seen _ _ _ _ _ _ _ HM4.out
    go_wp2_with fail
    exact fin _ _ _ _ _ _ _ HMF.out _ rfl
  · go_wp2_with fail
    have hMa := HM.out.below (wy := w3.alloc (.cells #[.int .i64 0, .int .i64 1, .int .i64 8, .int .i64 9, .int .i64 (-1)] 3)) hBl ((Below.refl _ _).alloc (Nat.le_refl _) _)
    refine (l1PickInt_in B w3.heap.size 5 [0, 1, 8, 9, -1] 3 _ hMa.up.cur (by omega) (hset_new rfl) (by decide) (by decide)).mono ?_
    rintro r w4 ⟨x, rfl, hx, hc4, ho4⟩
    have hw : W64 x := by
      simp only [List.mem_cons, List.not_mem_nil, or_false] at hx
      rcases hx with rfl | rfl | rfl | rfl | rfl <;> exact w64_lim (by omega) (by omega)
    have HM4 := Lib.hid (hMa.step hBl hSl hc4 ho4)
    have HMF := Lib.hid (HM4.out.put (o := 2) (u := .int .i64 x) (q := ⟨p.root, x, p.most⟩) hBl hSl HM4.out.own HM4.out.good HM4.out.root hw HM4.out.most rfl)
    clear r0 r1 r2 r3 fR s0 s1 s2 s3 fS hx hw hc4 ho4 hMa
    obtain ⟨⟨r0, r1, r2, r3, fR⟩, ⟨s0, s1, s2, s3, fS⟩⟩ := seen _ _ _ _ _ _ _ HM4.out
    go_wp2_with fail
    exact fin _ _ _ _ _ _ _ HMF.out _ rfl
  · go_wp2_with fail
    have hMa := HM.out.below (wy := w3.alloc (.cells #[.int .i64 (-1), .int .i64 0, .int .i64 2000, .int .i64 2001] 3)) hBl ((Below.refl _ _).alloc (Nat.le_refl _) _)
    refine (l1PickInt_in B w3.heap.size 4 [-1, 0, 2000, 2001] 3 _ hMa.up.cur (by omega) (hset_new rfl) (by decide) (by decide)).mono ?_
    rintro r w4 ⟨x, rfl, hx, hc4, ho4⟩
    have hw : W64 x := by
      simp only [List.mem_cons, List.not_mem_nil, or_false] at hx
      rcases hx with rfl | rfl | rfl | rfl <;> exact w64_lim (by omega) (by omega)
    have HM4 := Lib.hid (hMa.step hBl hSl hc4 ho4)
    have HMF := Lib.hid (HM4.out.put (o := 3) (u := .int .i64 x) (q := ⟨p.root, p.deep, x⟩) hBl hSl HM4.out.own HM4.out.good HM4.out.root HM4.out.deep hw rfl)
    clear r0 r1 r2 r3 fR s0 s1 s2 s3 fS hx hw hc4 ho4 hMa
    obtain ⟨⟨r0, r1, r2, r3, fR⟩, ⟨s0, s1, s2, s3, fS⟩⟩ := seen _ _ _ _ _ _ _ HM4.out
    go_wp2_with fail
    exact fin _ _ _ _ _ _ _ HMF.out _ rfl
  · have y0 : (y == 0) = false := by simp; omega
    have y1 : (y == 1) = false := by simp; omega
    have y2 : (y == 2) = false := by simp; omega
    have y3 : (y == 3) = false := by simp; omega
    go_wp2_with fail
    exact fin _ _ _ _ _ _ _ HM.out _ rfl
end Go.Proofs.Ytbgejldjgkihaaa

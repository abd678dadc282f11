/- Texts that FnSettle leans on, part 15. (Put together by wip/tools/bundle.py.) -/
import Derived.Deep.CutRange
import Derived.Deep.CutBlock
import Derived.Test.YtabdjimjelfbfaaGreatSettle1
import Derived.Test.YtabdjimjelfbfaaGreatSettle2
import Derived.Test.YtabdjimjelfbfaaGreatSettle3
import Derived.Test.YtabdjimjelfbfaaGreatSettle4
import Derived.Test.YtabdjimjelfbfaaGreatSettle5
import Derived.Test.YtabdjimjelfbfaaGreatSettle6
import Derived.Test.YtabdjimjelfbfaaGreatSettle7
import Derived.Test.YtabdjimjelfbfaaGreatSettle8
import Derived.Test.YtabdjimjelfbfaaGreatSettle9
import Derived.Test.YtabdjimjelfbfaaGreatSettle10
import Derived.Test.YtabdjimjelfbfaaGreatSettle11
import Derived.Test.YtabdjimjelfbfaaGreatSettle12
import Derived.Test.YtabdjimjelfbfaaGreatSettle13
import Derived.Test.YtabdjimjelfbfaaGreatSettle14
namespace Go.Proofs.YtabdjimjelfbfaaGreat
set_option linter.unusedSimpArgs false
set_option linter.unusedVariables false
open Go.ChangeShapes Go.WideShapes Go.ChangeAt Go.RowKit Go.BigFrame
theorem MidD.app {w wr w' : World} {B D : Nat} {d : Dc} {xs : List Shp} {ls : List Lvl} {a : Option Addr} {cap : Nat} {rs : List ShR} {sa : Option Addr} {scap : Nat} {sa' : Option Addr} {scap' : Nat} {l : Lvl} (h : MidD w wr B D d xs ls a cap rs sa scap) (hB : B < w.heap.size) (hG : wr.grownBy w' (Value.slice sa ls.length scap).ownBlock)
  (hv : w'.ownsRow (w.heap.size + 1) 67 2 (.slice sa' (ls.length + 1) scap') (ls.length + 1) (ls.flatMap Lvl.cs ++ l.cs)) :
  w'.heap[D]? = some (.cells (Dc.cl d (.slice a xs.length cap) (.slice sa ls.length scap)).toArray 40 (0, 0)) ∧ MidD w (w'.setCell ⟨D, 5, none⟩ (.slice sa' (ls.length + 1) scap')) B D d xs (ls ++ [l]) a cap rs sa' scap' := by
 have hne : ∀ k cs, wr.heap[k]? = some (.cells cs 40 (0, 0)) → (Value.slice sa ls.length scap).ownBlock ≠ some k := fun k cs hk e => by
  obtain ⟨cur, hcur⟩ := own_blk h.lv e
  exact absurd (typed_neL hcur hk) (by decide)
 have hD := (hG.block _ (box_lt h.box) (fun e => hne _ _ h.box e.symm)).trans h.box
 have hR := (hG.block _ (box_lt h.res) (fun e => hne _ _ h.res e.symm)).trans h.res
 have hsh := h.sh.keepBy hG (other_own h.lv (by decide)) (other_own h.lv (by decide))
 have hup := h.up.grown hB hG (fun g e => by have := (h.lv.lt g e).1; omega)
 have hS := only_set w' D 5 (.slice sa' (ls.length + 1) scap')
 have hl : (ls ++ [l]).length = ls.length + 1 := by simp
 refine ⟨hD, ?_, (hS.block _ (box_lt hR) (by have := h.hD; simp only [ne_eq, Option.some.injEq]; omega)).trans hR, hsh.keepBy hS (other_box hD (by decide)) (other_box hD (by decide)), ?_, hup.grown hB hS (fun g e => by have := Option.some.inj e; have := h.hD; omega), h.hD, h.hs⟩
 ·rw [hl]; apply hset_eq (hset_set hD); simp only [List.setIfInBounds_toArray, List.set_cons_zero, List.set_cons_succ]
 ·rw [hl]; exact owns_keep (by rw [List.flatMap_append]; simpa using hv) hS (other_box hD (by decide))
set_option maxRecDepth 100000 in
set_option maxHeartbeats 8000000 in
theorem l14Bent_any (B : Nat) (w : World) (hc : Cur w B) : Calls Tryz.prog 32 #[.pointer (some ⟨B, 0, none⟩)] w (DrawnD B 9 w) := by
 have hBl := hc.lt
 go_enter Tryz.func32, Tryz.ntmps32
 go_wp2_with fail
 refine (l14Right_any B _ (hc.below bl)).mono ?_
 rintro r w1 ⟨d, xs, ls, a, cap, rs, sa, scap, rfl, ho, hl, hs, h8, hu⟩
 have hz1 := hu.oth.size
 simp only [World.size_alloc] at hz1 ho hl
 have hR1 := Lib.hid ((hu.oth.block (b := w.heap.size) (by simp) (by omega)).trans (hset_new (o := .cells dz0.toArray 40) rfl))
 have hu1 := Lib.hid (((Up.refl hc).alloc hBl _).step hu.cur hu.oth)
 have hb3 : Below w1.heap.size w1 ((w1.alloc (.cells dz0.toArray 40)).setRow w1.heap.size (Dc.cl d (.slice a xs.length cap) (.slice sa ls.length scap)).toArray) := by exact bl
 have hD3 : ((w1.alloc (.cells dz0.toArray 40)).setRow w1.heap.size (Dc.cl d (.slice a xs.length cap) (.slice sa ls.length scap)).toArray).heap[w1.heap.size]? = some (.cells (Dc.cl d (.slice a xs.length cap) (.slice sa ls.length scap)).toArray 40 (0, 0)) := hset_row (cs := dz0.toArray) (hset_new rfl)
 have HO := Lib.hid ho; have HL := Lib.hid hl; clear ho hl hu
 go_upto_region 2 with (first | ((with_reducible show wpList _ _ _ (⟨_, Op.store 40 _ _, _, _, _, _⟩ :: _) _ _); refine wsq w1.heap.size (Dc.cl d (.slice a xs.length cap) (.slice sa ls.length scap)).toArray (hset_new rfl) (one_Dec _ _ _ _ _ _ _) ?_))
 obtain ⟨w2, hw2⟩ : ∃ q, ((w1.alloc (.cells dz0.toArray 40)).setRow w1.heap.size (Dc.cl d (.slice a xs.length cap) (.slice sa ls.length scap)).toArray) = q := ⟨_, rfl⟩
 rw [hw2] at hb3 hD3 ⊢
 clear hw2
 have HM := Lib.hid (show MidD w w2 B w1.heap.size d xs ls a cap rs sa scap from ⟨hD3, (hb3.block _ (box_lt hR1.out)).trans hR1.out, (HO.out.chain hb3 (Nat.le_refl _)).le (by omega), owns_le (owns_below HL.out hb3 (Nat.le_refl _)) (by omega), hu1.out.below hBl hb3 (by have := hu1.out.oth.size; omega), by omega, hs⟩)
 obtain ⟨D, hD⟩ : ∃ q, w1.heap.size = q := ⟨_, rfl⟩
 rw [hD] at HM
 try simp only [hD]
 clear hb3 hD3 HO HL hu1 hR1 hD hz1
 try simp only [Act.put]
 go_wp2_with fail
 refine (l1Below_any B 22 _ HM.out.up.cur (by omega) (by omega)).mono ?_
 rintro r w3 ⟨x, rfl, hx0, hx1, hc3, ho3⟩
 have H3 := Lib.hid (HM.out.step hBl hc3 ho3); clear HM hc3 ho3
 rcases (show x = 0 ∨ x = 1 ∨ x = 2 ∨ x = 3 ∨ x = 4 ∨ x = 5 ∨ x = 6 ∨ x = 7 ∨ x = 8 ∨ x = 9 ∨ x = 10 ∨ 11 ≤ x by omega) with rfl | rfl | rfl | rfl | rfl | rfl | rfl | rfl | rfl | rfl | rfl | hx11
 ·go_wp2_with fail
  refine (l1Below_any B 12 _ H3.out.up.cur (by omega) (by omega)).mono ?_
  rintro r w4 ⟨q, rfl, hq0, hq1, hcq, hoq⟩
  have H4 := Lib.hid (H3.out.step hBl hcq hoq); clear hcq hoq H3
  have kD := box_cells H4.out.box; have fD := box_frozen H4.out.box; have hBD := box_lt H4.out.box; have hwD := H4.out.hD
  go_upto_region 25 with fail
  clear kD fD hBD hwD
  obtain ⟨wz, hwz⟩ : ∃ qw_, (w4.setCell ⟨D, 4, none⟩ (.int .i64 (q - 1))) = qw_ := ⟨_, rfl⟩
  rw [hwz]
  obtain ⟨z, hx_⟩ : ∃ qd_ : Dc, ⟨d.p, q - 1, d.bits, d.have_, d.start, d.at_, d.field, d.wire, d.want, d.utf, d.end_⟩ = qd_ := ⟨_, rfl⟩
  have hb_ : wz.heap[D]? = some (.cells (Dc.cl z (.slice a xs.length cap) (.slice sa ls.length scap)).toArray 40 (0, 0)) := by rw [← hwz, ← hx_]; apply hset_eq; (repeat (first | (with_reducible exact H4.out.box) | (with_reducible apply hset_set) | (with_reducible apply hset_alloc))); simp only [List.setIfInBounds_toArray, List.set_cons_zero, List.set_cons_succ]
  have HZ := Lib.hid (show MidD w wz B D z xs ls a cap rs sa scap from H4.out.upd hBl (by rw [← hwz]; (repeat (first | (with_reducible refine only_cell ?_ _ _) | (with_reducible refine only_alloc ?_ _))); exact only_refl _ _) hb_); clear hb_ hwz hx_ H4
  go_wp2_with (first | ((with_reducible show wpList _ _ _ (⟨_, Op.load 40 _, _, _, _, _⟩ :: _) _ _); refine wlm D (Dc.cl z (.slice a xs.length cap) (.slice sa ls.length scap)) (range_of_box (t := 40) HZ.out.box) ?_) | ((with_reducible show wpList _ _ _ (⟨_, Op.store 40 _ _, _, _, _, _⟩ :: _) _ _); refine wsq w.heap.size (Dc.cl z (.slice a xs.length cap) (.slice sa ls.length scap)).toArray (HZ.out.res) (one_Dec _ _ _ _ _ _ _) ?_))
  exact MidD.done Tryz.results32 HZ.out hBl (by omega) rfl
 ·go_wp2_with fail
  have hal : Below w3.heap.size w3 (w3.alloc (.cells #[.int .i64 0, .int .i64 1, .int .i64 5, .int .i64 2000, .int .i64 (-1)] 3)) := (Below.refl _ _).alloc (Nat.le_refl _) _
  have Hq := Lib.hid (H3.out.keep hBl hal)
  refine (l1PickInt_any B w3.heap.size 5 [0, 1, 5, 2000, -1] 3 _ Hq.out.up.cur (by have := H3.out.up.oth.size; omega) (hset_new rfl) (by simp) (by simp)).mono ?_
  rintro r w4 ⟨q, rfl, hcq, hoq⟩
  have H4 := Lib.hid (Hq.out.step hBl hcq hoq); clear hcq hoq hal Hq H3
  have kD := box_cells H4.out.box; have fD := box_frozen H4.out.box; have hBD := box_lt H4.out.box; have hwD := H4.out.hD
  go_upto_region 25 with fail
  clear kD fD hBD hwD
  obtain ⟨wz, hwz⟩ : ∃ qw_, (w4.setCell ⟨D, 16, none⟩ (.int .i64 q)) = qw_ := ⟨_, rfl⟩
  rw [hwz]
  obtain ⟨z, hx_⟩ : ∃ qd_ : Dc, ⟨d.p, d.mode, d.bits, d.have_, d.start, d.at_, d.field, d.wire, q, d.utf, d.end_⟩ = qd_ := ⟨_, rfl⟩
  have hb_ : wz.heap[D]? = some (.cells (Dc.cl z (.slice a xs.length cap) (.slice sa ls.length scap)).toArray 40 (0, 0)) := by rw [← hwz, ← hx_]; apply hset_eq; (repeat (first | (with_reducible exact H4.out.box) | (with_reducible apply hset_set) | (with_reducible apply hset_alloc))); simp only [List.setIfInBounds_toArray, List.set_cons_zero, List.set_cons_succ]
  have HZ := Lib.hid (show MidD w wz B D z xs ls a cap rs sa scap from H4.out.upd hBl (by rw [← hwz]; (repeat (first | (with_reducible refine only_cell ?_ _ _) | (with_reducible refine only_alloc ?_ _))); exact only_refl _ _) hb_); clear hb_ hwz hx_ H4
  go_wp2_with (first | ((with_reducible show wpList _ _ _ (⟨_, Op.load 40 _, _, _, _, _⟩ :: _) _ _); refine wlm D (Dc.cl z (.slice a xs.length cap) (.slice sa ls.length scap)) (range_of_box (t := 40) HZ.out.box) ?_) | ((with_reducible show wpList _ _ _ (⟨_, Op.store 40 _ _, _, _, _, _⟩ :: _) _ _); refine wsq w.heap.size (Dc.cl z (.slice a xs.length cap) (.slice sa ls.length scap)).toArray (HZ.out.res) (one_Dec _ _ _ _ _ _ _) ?_))
  exact MidD.done Tryz.results32 HZ.out hBl (by omega) rfl
 ·skip
  have kD := box_cells H3.out.box; have fD := box_frozen H3.out.box; have hBD := box_lt H3.out.box; have hwD := H3.out.hD
  go_upto_region 8 with fail
  have cD5 := kD 5
  simp only [List.getElem?_toArray, List.getElem?_cons_zero, List.getElem?_cons_succ] at cD5
  refine wp_region_till (Cells [(⟨D, 5, none⟩, .slice sa ls.length scap)]) (fun i => decide (12 ≤ i)) (by kernel_rfl) ?_
  have hS : Cells [(⟨D, 5, none⟩, .slice sa ls.length scap)] w3.drew := cells_mk cD5 (cells_no _)
  have H3d := Lib.hid (H3.out.keep hBl (show Below w3.heap.size w3 w3.drew from (Below.refl _ _).drew)); clear H3 cD5
  have hwD2 := hwD
  clear kD fD hBD hwD
  obtain ⟨i0, hi, hz0, hz1, hz2⟩ := info_parts info_Level
  refine tk (i := 0) hS ?_
  refine tk (i := 1) hS ?_
  refine tk (i := 2) hS ?_
  refine tk (i := 5) hS ?_
  refine wpTill_two (i := 3) (j := 6) (by kernel_rfl) rfl rfl (fun K hK => ?_) (fun K hK => ?_)
  ·go_simp
   refine (l1Below_any B 4 _ H3d.out.up.cur (by omega) (by omega)).mono ?_
   rintro r w5 ⟨q, rfl, hq0, hq1, hcq, hoq⟩
   have H4 := Lib.hid (H3d.out.step hBl hcq hoq)
   have hS' := hS.oth2 hoq (by intro q hq; simp only [List.mem_cons, List.not_mem_nil, or_false] at hq; subst hq; simp only; omega); clear hS; have hS := hS'; clear hS'
   clear hcq hoq H3d
   refine hK.out _ _ (fun _ => hS) ?_
   clear hK K
   try simp only [List.getElem_toArray, List.getElem_cons_succ, List.getElem_cons_zero, Act.put, List.setIfInBounds_toArray, List.set_cons_zero, List.set_cons_succ]
   have hwq : IntKind.i64.wrap (q - 1) = q - 1 := by rw [IntKind.wrap_i64]; omega
   refine tk (i := 4) hS ?_
   clear hwq
   refine wpTill_op (i := 6) (by kernel_rfl) rfl (fun K hK => ?_)
   go_simp
   have hal : Below w5.heap.size w5 (w5.alloc (.cells #[.int .i64 0, .int .i64 1, .int .i64 7, .int .i64 2000, .int .i64 2001, .int .i64 (-1)] 3)) := (Below.refl _ _).alloc (Nat.le_refl _) _
   have hGb : (w5.alloc (.cells #[.int .i64 0, .int .i64 1, .int .i64 7, .int .i64 2000, .int .i64 2001, .int .i64 (-1)] 3)).heap[w5.heap.size]? = some (.cells #[.int .i64 0, .int .i64 1, .int .i64 7, .int .i64 2000, .int .i64 2001, .int .i64 (-1)] 3 (0, 0)) := hset_new rfl
   have hGB : w5.heap.size ≠ B := by have := H4.out.up.oth.size; omega
   have H6 := Lib.hid (H4.out.keep hBl hal)
   have hS' := hS.alloc (.cells #[.int .i64 0, .int .i64 1, .int .i64 7, .int .i64 2000, .int .i64 2001, .int .i64 (-1)] 3); clear hS; have hS := hS'; clear hS' hal H4
   refine hK.out _ _ (fun _ => hS) ?_
   clear hK K
   try simp only [List.getElem_toArray, List.getElem_cons_succ, List.getElem_cons_zero, Act.put, List.setIfInBounds_toArray, List.set_cons_zero, List.set_cons_succ]
   refine wpTill_op (i := 7) (by kernel_rfl) rfl (fun K hK => ?_)
   go_simp
   refine (l1PickInt_any B w5.heap.size 6 [0, 1, 7, 2000, 2001, -1] 3 _ H6.out.up.cur (by omega) hGb (by decide) (by decide)).mono ?_
   rintro r w7 ⟨u, rfl, hcq, hoq⟩
   have H7 := Lib.hid (H6.out.step hBl hcq hoq)
   have hS' := hS.oth2 hoq (by intro q hq; simp only [List.mem_cons, List.not_mem_nil, or_false] at hq; subst hq; simp only; omega); clear hS; have hS := hS'; clear hS'
   clear hcq hoq H6 hGb
   refine hK.out _ _ (fun _ => hS) ?_
   clear hK K
   try simp only [List.getElem_toArray, List.getElem_cons_succ, List.getElem_cons_zero, Act.put, List.setIfInBounds_toArray, List.set_cons_zero, List.set_cons_succ]
   refine tk (i := 8) hS ?_
   refine wpTill_op (i := 9) (by kernel_rfl) rfl (fun K hK => ?_)
   go_simp
   have hal : Below w7.heap.size w7 (w7.alloc (.cells #[.int .i64 (q - 1), .int .i64 u] 67)) := (Below.refl _ _).alloc (Nat.le_refl _) _
   have H8 := Lib.hid (H7.out.keep hBl hal)
   have HNW := Lib.hid (sl_newsN (w := w7.alloc (.cells #[.int .i64 (q - 1), .int .i64 u] 67)) (cs := Lvl.cs) (xs := [⟨q - 1, u⟩]) (a := some ⟨w7.heap.size, 0, none⟩) (by omega) lvl_len (lvls_of_own (World.ownsRow.of_lvlL w7 (q - 1) u 67) rfl))
   have hS' := hS.alloc (.cells #[.int .i64 (q - 1), .int .i64 u] 67); clear hS; have hS := hS'; clear hS' hal
   refine hK.out _ _ (fun _ => hS) ?_
   clear hK K
   try simp only [List.getElem_toArray, List.getElem_cons_succ, List.getElem_cons_zero, Act.put, List.setIfInBounds_toArray, List.set_cons_zero, List.set_cons_succ]
   refine wpTill_op (i := 10) (by kernel_rfl) rfl (fun K hK => ?_)
   refine step_append_any rfl _ _ 29 rfl (w.heap.size + 1) 67 i0 _ 2 16 Tryz.underlying29 hi hz0 hz1 hz2 rfl (by decide) (.slice sa ls.length scap) ls.length (ls.flatMap Lvl.cs) rfl H8.out.lv (some ⟨w7.heap.size, 0, none⟩) 1 1 (⟨q - 1, u⟩ : Lvl).cs rfl (fun e => by cases e) rfl (fun ad e j v hj => HNW.out ad e j v hj) (lvl_one _) (by unfold maxLen; omega) (by omega) (by have := box_lt H8.out.res; omega) ?_
   intro v9 w9 hown9 hgr9
   obtain ⟨sa9, scap9, rfl, _⟩ := own_sh hown9
   obtain ⟨hD9, hfin⟩ := MidD.app H8.out hBl hgr9 hown9
   have hS' : Cells [(⟨D, 5, none⟩, .slice sa ls.length scap)] w9 := cells_mk (box_cells hD9 5) (cells_no _); clear hS; have hS := hS'; clear hS'
   have HF := Lib.hid hfin; clear hfin hown9 hgr9 H7 H8 HNW
   refine hK.out _ _ (fun _ => hS) ?_
   clear hK K
   try simp only [List.getElem_toArray, List.getElem_cons_succ, List.getElem_cons_zero, Act.put, List.setIfInBounds_toArray, List.set_cons_zero, List.set_cons_succ]
   refine tk (i := 11) hS ?_
   clear hS
   have kD := box_cells hD9; have fD := box_frozen hD9; have hBD := box_lt hD9
   refine wpTill_op (i := 12) (by kernel_rfl) rfl (fun K hK => ?_)
   go_simp
   refine hK.out _ _ (fun e => by cases e) ?_
   clear hK K
   try simp only [List.getElem_toArray, List.getElem_cons_succ, List.getElem_cons_zero, Act.put, List.setIfInBounds_toArray, List.set_cons_zero, List.set_cons_succ]
   refine wpTill_done (by kernel_rfl) ?_ _
   try simp only [List.getElem_toArray, List.getElem_cons_succ, List.getElem_cons_zero, Act.put, List.setIfInBounds_toArray, List.set_cons_zero, List.set_cons_succ]
   clear kD fD hBD hD9
   go_upto_region 25 with fail
   obtain ⟨wz, hwz⟩ : ∃ qw_, w9.setCell ⟨D, 5, none⟩ (.slice sa9 (ls.length + 1) scap9) = qw_ := ⟨_, rfl⟩
   rw [hwz]
   rw [hwz] at HF
   clear hwz
   obtain ⟨ls9, hls9, hl9⟩ : ∃ q_, ls ++ [⟨q - 1, u⟩] = q_ ∧ q_.length ≤ 9 := ⟨_, rfl, by simp; omega⟩
   rw [hls9] at HF
   clear hls9
   go_wp2_with (first | ((with_reducible show wpList _ _ _ (⟨_, Op.load 40 _, _, _, _, _⟩ :: _) _ _); refine wlm D (Dc.cl d (.slice a xs.length cap) (.slice sa9 ls9.length scap9)) (range_of_box (t := 40) HF.out.box) ?_) | ((with_reducible show wpList _ _ _ (⟨_, Op.store 40 _ _, _, _, _, _⟩ :: _) _ _); refine wsq w.heap.size (Dc.cl d (.slice a xs.length cap) (.slice sa9 ls9.length scap9)).toArray (HF.out.res) (one_Dec _ _ _ _ _ _ _) ?_))
   exact MidD.done Tryz.results32 HF.out hBl hl9 rfl
  ·go_simp
   have hal : Below w3.drew.heap.size w3.drew ((w3.alloc (.cells #[.int .i64 0, .int .i64 1, .int .i64 7, .int .i64 2000, .int .i64 2001, .int .i64 (-1)] 3)).drew) := (let h := ((Below.refl w3.heap.size w3).alloc (Nat.le_refl _) (.cells #[.int .i64 0, .int .i64 1, .int .i64 7, .int .i64 2000, .int .i64 2001, .int .i64 (-1)] 3)).drew; ⟨h.os, h.tape, h.output, h.size, h.block⟩)
   have hGb_ : ((w3.alloc (.cells #[.int .i64 0, .int .i64 1, .int .i64 7, .int .i64 2000, .int .i64 2001, .int .i64 (-1)] 3)).drew).heap[w3.heap.size]? = some (.cells #[.int .i64 0, .int .i64 1, .int .i64 7, .int .i64 2000, .int .i64 2001, .int .i64 (-1)] 3 (0, 0)) := heap_alloc_new w3 _
   have hGB : w3.heap.size ≠ B := by have : w.heap.size ≤ w3.heap.size := H3d.out.up.oth.size; omega
   have H4 := Lib.hid (H3d.out.keep hBl hal)
   have hS' : Cells [(⟨D, 5, none⟩, .slice sa ls.length scap)] ((w3.alloc (.cells #[.int .i64 0, .int .i64 1, .int .i64 7, .int .i64 2000, .int .i64 2001, .int .i64 (-1)] 3)).drew) := hS.below hal; clear hS; have hS := hS'; clear hS'
   clear hal H3d
   refine hK.out _ _ (fun _ => hS) ?_
   clear hK K
   try simp only [List.getElem_toArray, List.getElem_cons_succ, List.getElem_cons_zero, Act.put, List.setIfInBounds_toArray, List.set_cons_zero, List.set_cons_succ]
   refine wpTill_op (i := 3) (by kernel_rfl) rfl (fun K hK => ?_)
   go_simp
   refine (l1Below_any B 4 _ H4.out.up.cur (by omega) (by omega)).mono ?_
   rintro r w5 ⟨q, rfl, hq0, hq1, hcq, hoq⟩
   have H6 := Lib.hid (H4.out.step hBl hcq hoq)
   have hGb := (hoq.block (box_lt hGb_) hGB).trans hGb_
   have hS' := hS.oth2 hoq (by intro q hq; simp only [List.mem_cons, List.not_mem_nil, or_false] at hq; subst hq; simp only; omega); clear hS; have hS := hS'; clear hS'
   clear hcq hoq H4 hGb_
   refine hK.out _ _ (fun _ => hS) ?_
   clear hK K
   try simp only [List.getElem_toArray, List.getElem_cons_succ, List.getElem_cons_zero, Act.put, List.setIfInBounds_toArray, List.set_cons_zero, List.set_cons_succ]
   have hwq : IntKind.i64.wrap (q - 1) = q - 1 := by rw [IntKind.wrap_i64]; omega
   refine tk (i := 4) hS ?_
   clear hwq
   refine wpTill_op (i := 7) (by kernel_rfl) rfl (fun K hK => ?_)
   go_simp
   refine (l1PickInt_any B w3.heap.size 6 [0, 1, 7, 2000, 2001, -1] 3 _ H6.out.up.cur (by omega) hGb (by decide) (by decide)).mono ?_
   rintro r w7 ⟨u, rfl, hcq, hoq⟩
   have H7 := Lib.hid (H6.out.step hBl hcq hoq)
   have hS' := hS.oth2 hoq (by intro q hq; simp only [List.mem_cons, List.not_mem_nil, or_false] at hq; subst hq; simp only; omega); clear hS; have hS := hS'; clear hS'
   clear hcq hoq H6 hGb
   refine hK.out _ _ (fun _ => hS) ?_
   clear hK K
   try simp only [List.getElem_toArray, List.getElem_cons_succ, List.getElem_cons_zero, Act.put, List.setIfInBounds_toArray, List.set_cons_zero, List.set_cons_succ]
   refine tk (i := 8) hS ?_
   refine wpTill_op (i := 9) (by kernel_rfl) rfl (fun K hK => ?_)
   go_simp
   have hal : Below w7.heap.size w7 (w7.alloc (.cells #[.int .i64 (q - 1), .int .i64 u] 67)) := (Below.refl _ _).alloc (Nat.le_refl _) _
   have H8 := Lib.hid (H7.out.keep hBl hal)
   have HNW := Lib.hid (sl_newsN (w := w7.alloc (.cells #[.int .i64 (q - 1), .int .i64 u] 67)) (cs := Lvl.cs) (xs := [⟨q - 1, u⟩]) (a := some ⟨w7.heap.size, 0, none⟩) (by omega) lvl_len (lvls_of_own (World.ownsRow.of_lvlL w7 (q - 1) u 67) rfl))
   have hS' := hS.alloc (.cells #[.int .i64 (q - 1), .int .i64 u] 67); clear hS; have hS := hS'; clear hS' hal
   refine hK.out _ _ (fun _ => hS) ?_
   clear hK K
   try simp only [List.getElem_toArray, List.getElem_cons_succ, List.getElem_cons_zero, Act.put, List.setIfInBounds_toArray, List.set_cons_zero, List.set_cons_succ]
   refine wpTill_op (i := 10) (by kernel_rfl) rfl (fun K hK => ?_)
   refine step_append_any rfl _ _ 29 rfl (w.heap.size + 1) 67 i0 _ 2 16 Tryz.underlying29 hi hz0 hz1 hz2 rfl (by decide) (.slice sa ls.length scap) ls.length (ls.flatMap Lvl.cs) rfl H8.out.lv (some ⟨w7.heap.size, 0, none⟩) 1 1 (⟨q - 1, u⟩ : Lvl).cs rfl (fun e => by cases e) rfl (fun ad e j v hj => HNW.out ad e j v hj) (lvl_one _) (by unfold maxLen; omega) (by omega) (by have := box_lt H8.out.res; omega) ?_
   intro v9 w9 hown9 hgr9
   obtain ⟨sa9, scap9, rfl, _⟩ := own_sh hown9
   obtain ⟨hD9, hfin⟩ := MidD.app H8.out hBl hgr9 hown9
   have hS' : Cells [(⟨D, 5, none⟩, .slice sa ls.length scap)] w9 := cells_mk (box_cells hD9 5) (cells_no _); clear hS; have hS := hS'; clear hS'
   have HF := Lib.hid hfin; clear hfin hown9 hgr9 H7 H8 HNW
   refine hK.out _ _ (fun _ => hS) ?_
   clear hK K
   try simp only [List.getElem_toArray, List.getElem_cons_succ, List.getElem_cons_zero, Act.put, List.setIfInBounds_toArray, List.set_cons_zero, List.set_cons_succ]
   refine tk (i := 11) hS ?_
   clear hS
   have kD := box_cells hD9; have fD := box_frozen hD9; have hBD := box_lt hD9
   refine wpTill_op (i := 12) (by kernel_rfl) rfl (fun K hK => ?_)
   go_simp
   refine hK.out _ _ (fun e => by cases e) ?_
   clear hK K
   try simp only [List.getElem_toArray, List.getElem_cons_succ, List.getElem_cons_zero, Act.put, List.setIfInBounds_toArray, List.set_cons_zero, List.set_cons_succ]
   refine wpTill_done (by kernel_rfl) ?_ _
   try simp only [List.getElem_toArray, List.getElem_cons_succ, List.getElem_cons_zero, Act.put, List.setIfInBounds_toArray, List.set_cons_zero, List.set_cons_succ]
   clear kD fD hBD hD9
   go_upto_region 25 with fail
   obtain ⟨wz, hwz⟩ : ∃ qw_, w9.setCell ⟨D, 5, none⟩ (.slice sa9 (ls.length + 1) scap9) = qw_ := ⟨_, rfl⟩
   rw [hwz]
   rw [hwz] at HF
   clear hwz
   obtain ⟨ls9, hls9, hl9⟩ : ∃ q_, ls ++ [⟨q - 1, u⟩] = q_ ∧ q_.length ≤ 9 := ⟨_, rfl, by simp; omega⟩
   rw [hls9] at HF
   clear hls9
   go_wp2_with (first | ((with_reducible show wpList _ _ _ (⟨_, Op.load 40 _, _, _, _, _⟩ :: _) _ _); refine wlm D (Dc.cl d (.slice a xs.length cap) (.slice sa9 ls9.length scap9)) (range_of_box (t := 40) HF.out.box) ?_) | ((with_reducible show wpList _ _ _ (⟨_, Op.store 40 _ _, _, _, _, _⟩ :: _) _ _); refine wsq w.heap.size (Dc.cl d (.slice a xs.length cap) (.slice sa9 ls9.length scap9)).toArray (HF.out.res) (one_Dec _ _ _ _ _ _ _) ?_))
   exact MidD.done Tryz.results32 HF.out hBl hl9 rfl
 ·go_wp2_with fail
  refine (l3Scan_any B _ H3.out.up.cur).mono ?_
  rintro r w4 ⟨b, h, rfl, hb, hh, hu4⟩
  have H4 := Lib.hid (H3.out.step hBl hu4.cur hu4.oth); clear H3 hu4
  have kD := box_cells H4.out.box; have fD := box_frozen H4.out.box; have hBD := box_lt H4.out.box; have hwD := H4.out.hD
  go_upto_region 25 with fail
  clear kD fD hBD hwD
  obtain ⟨wz, hwz⟩ : ∃ qw_, ((w4.setCell ⟨D, 6, none⟩ (.int .u64 b)).setCell ⟨D, 7, none⟩ (.int .i64 h)) = qw_ := ⟨_, rfl⟩
  rw [hwz]
  obtain ⟨z, hx_⟩ : ∃ qd_ : Dc, ⟨d.p, d.mode, b, h, d.start, d.at_, d.field, d.wire, d.want, d.utf, d.end_⟩ = qd_ := ⟨_, rfl⟩
  have hb_ : wz.heap[D]? = some (.cells (Dc.cl z (.slice a xs.length cap) (.slice sa ls.length scap)).toArray 40 (0, 0)) := by rw [← hwz, ← hx_]; apply hset_eq; (repeat (first | (with_reducible exact H4.out.box) | (with_reducible apply hset_set) | (with_reducible apply hset_alloc))); simp only [List.setIfInBounds_toArray, List.set_cons_zero, List.set_cons_succ]
  have HZ := Lib.hid (show MidD w wz B D z xs ls a cap rs sa scap from H4.out.upd hBl (by rw [← hwz]; (repeat (first | (with_reducible refine only_cell ?_ _ _) | (with_reducible refine only_alloc ?_ _))); exact only_refl _ _) hb_); clear hb_ hwz hx_ H4
  go_wp2_with (first | ((with_reducible show wpList _ _ _ (⟨_, Op.load 40 _, _, _, _, _⟩ :: _) _ _); refine wlm D (Dc.cl z (.slice a xs.length cap) (.slice sa ls.length scap)) (range_of_box (t := 40) HZ.out.box) ?_) | ((with_reducible show wpList _ _ _ (⟨_, Op.store 40 _ _, _, _, _, _⟩ :: _) _ _); refine wsq w.heap.size (Dc.cl z (.slice a xs.length cap) (.slice sa ls.length scap)).toArray (HZ.out.res) (one_Dec _ _ _ _ _ _ _) ?_))
  exact MidD.done Tryz.results32 HZ.out hBl (by omega) rfl
 ·go_wp2_with fail
  refine (l1Below_any B 9 _ H3.out.up.cur (by omega) (by omega)).mono ?_
  rintro r w4 ⟨q, rfl, hq0, hq1, hcq, hoq⟩
  have H4 := Lib.hid (H3.out.step hBl hcq hoq); clear hcq hoq H3
  have kD := box_cells H4.out.box; have fD := box_frozen H4.out.box; have hBD := box_lt H4.out.box; have hwD := H4.out.hD
  go_upto_region 25 with fail
  clear kD fD hBD hwD
  obtain ⟨wz, hwz⟩ : ∃ qw_, (w4.setCell ⟨D, 15, none⟩ (.int .i64 (q - 1))) = qw_ := ⟨_, rfl⟩
  rw [hwz]
  obtain ⟨z, hx_⟩ : ∃ qd_ : Dc, ⟨d.p, d.mode, d.bits, d.have_, d.start, d.at_, d.field, q - 1, d.want, d.utf, d.end_⟩ = qd_ := ⟨_, rfl⟩
  have hb_ : wz.heap[D]? = some (.cells (Dc.cl z (.slice a xs.length cap) (.slice sa ls.length scap)).toArray 40 (0, 0)) := by rw [← hwz, ← hx_]; apply hset_eq; (repeat (first | (with_reducible exact H4.out.box) | (with_reducible apply hset_set) | (with_reducible apply hset_alloc))); simp only [List.setIfInBounds_toArray, List.set_cons_zero, List.set_cons_succ]
  have HZ := Lib.hid (show MidD w wz B D z xs ls a cap rs sa scap from H4.out.upd hBl (by rw [← hwz]; (repeat (first | (with_reducible refine only_cell ?_ _ _) | (with_reducible refine only_alloc ?_ _))); exact only_refl _ _) hb_); clear hb_ hwz hx_ H4
  go_wp2_with (first | ((with_reducible show wpList _ _ _ (⟨_, Op.load 40 _, _, _, _, _⟩ :: _) _ _); refine wlm D (Dc.cl z (.slice a xs.length cap) (.slice sa ls.length scap)) (range_of_box (t := 40) HZ.out.box) ?_) | ((with_reducible show wpList _ _ _ (⟨_, Op.store 40 _ _, _, _, _, _⟩ :: _) _ _); refine wsq w.heap.size (Dc.cl z (.slice a xs.length cap) (.slice sa ls.length scap)).toArray (HZ.out.res) (one_Dec _ _ _ _ _ _ _) ?_))
  exact MidD.done Tryz.results32 HZ.out hBl (by omega) rfl
 ·go_wp2_with fail
  refine (l1Below_any B 5 _ H3.out.up.cur (by omega) (by omega)).mono ?_
  rintro r w4 ⟨q, rfl, hq0, hq1, hcq, hoq⟩
  have H4 := Lib.hid (H3.out.step hBl hcq hoq); clear hcq hoq H3
  go_wp2_with fail
  refine (l1Below_any B 8 _ H4.out.up.cur (by omega) (by omega)).mono ?_
  rintro r w5 ⟨u, rfl, hu0, hu1, hcq, hoq⟩
  have H5 := Lib.hid (H4.out.step hBl hcq hoq); clear hcq hoq H4
  have kD := box_cells H5.out.box; have fD := box_frozen H5.out.box; have hBD := box_lt H5.out.box; have hwD := H5.out.hD
  go_upto_region 25 with fail
  clear kD fD hBD hwD
  obtain ⟨wz, hwz⟩ : ∃ qw_, (((((w5.setCell ⟨D, 10, none⟩ (.int .i64 (1 + q))).setCell ⟨D, 11, none⟩ (.int .i64 (1 + u))).setCell ⟨D, 12, none⟩ (.bool false)).setCell ⟨D, 13, none⟩ (.bool false)).setCell ⟨D, 14, none⟩ (.int .i64 (-1))) = qw_ := ⟨_, rfl⟩
  rw [hwz]
  obtain ⟨z, hx_⟩ : ∃ qd_ : Dc, ⟨d.p, d.mode, d.bits, d.have_, d.start, d.at_, ⟨1 + q, 1 + u, false, false, -1⟩, d.wire, d.want, d.utf, d.end_⟩ = qd_ := ⟨_, rfl⟩
  have hb_ : wz.heap[D]? = some (.cells (Dc.cl z (.slice a xs.length cap) (.slice sa ls.length scap)).toArray 40 (0, 0)) := by rw [← hwz, ← hx_]; apply hset_eq; (repeat (first | (with_reducible exact H5.out.box) | (with_reducible apply hset_set) | (with_reducible apply hset_alloc))); simp only [List.setIfInBounds_toArray, List.set_cons_zero, List.set_cons_succ]
  have HZ := Lib.hid (show MidD w wz B D z xs ls a cap rs sa scap from H5.out.upd hBl (by rw [← hwz]; (repeat (first | (with_reducible refine only_cell ?_ _ _) | (with_reducible refine only_alloc ?_ _))); exact only_refl _ _) hb_); clear hb_ hwz hx_ H5
  go_wp2_with (first | ((with_reducible show wpList _ _ _ (⟨_, Op.load 40 _, _, _, _, _⟩ :: _) _ _); refine wlm D (Dc.cl z (.slice a xs.length cap) (.slice sa ls.length scap)) (range_of_box (t := 40) HZ.out.box) ?_) | ((with_reducible show wpList _ _ _ (⟨_, Op.store 40 _ _, _, _, _, _⟩ :: _) _ _); refine wsq w.heap.size (Dc.cl z (.slice a xs.length cap) (.slice sa ls.length scap)).toArray (HZ.out.res) (one_Dec _ _ _ _ _ _ _) ?_))
  exact MidD.done Tryz.results32 HZ.out hBl (by omega) rfl
 ·go_wp2_with fail
  refine (l5State_any B _ H3.out.up.cur).mono ?_
  rintro r w4 ⟨⟨u1, u2, u3⟩, rfl, huk, hu4⟩
  have H4 := Lib.hid (H3.out.step hBl hu4.cur hu4.oth); clear H3 hu4
  have kD := box_cells H4.out.box; have fD := box_frozen H4.out.box; have hBD := box_lt H4.out.box; have hwD := H4.out.hD
  go_upto_region 25 with fail
  clear kD fD hBD hwD
  obtain ⟨wz, hwz⟩ : ∃ qw_, (((w4.setCell ⟨D, 17, none⟩ (.int .i64 u1)).setCell ⟨D, 18, none⟩ (.int .i64 u2)).setCell ⟨D, 19, none⟩ (.int .i64 u3)) = qw_ := ⟨_, rfl⟩
  rw [hwz]
  obtain ⟨z, hx_⟩ : ∃ qd_ : Dc, ⟨d.p, d.mode, d.bits, d.have_, d.start, d.at_, d.field, d.wire, d.want, ⟨u1, u2, u3⟩, d.end_⟩ = qd_ := ⟨_, rfl⟩
  have hb_ : wz.heap[D]? = some (.cells (Dc.cl z (.slice a xs.length cap) (.slice sa ls.length scap)).toArray 40 (0, 0)) := by rw [← hwz, ← hx_]; apply hset_eq; (repeat (first | (with_reducible exact H4.out.box) | (with_reducible apply hset_set) | (with_reducible apply hset_alloc))); simp only [List.setIfInBounds_toArray, List.set_cons_zero, List.set_cons_succ]
  have HZ := Lib.hid (show MidD w wz B D z xs ls a cap rs sa scap from H4.out.upd hBl (by rw [← hwz]; (repeat (first | (with_reducible refine only_cell ?_ _ _) | (with_reducible refine only_alloc ?_ _))); exact only_refl _ _) hb_); clear hb_ hwz hx_ H4
  go_wp2_with (first | ((with_reducible show wpList _ _ _ (⟨_, Op.load 40 _, _, _, _, _⟩ :: _) _ _); refine wlm D (Dc.cl z (.slice a xs.length cap) (.slice sa ls.length scap)) (range_of_box (t := 40) HZ.out.box) ?_) | ((with_reducible show wpList _ _ _ (⟨_, Op.store 40 _ _, _, _, _, _⟩ :: _) _ _); refine wsq w.heap.size (Dc.cl z (.slice a xs.length cap) (.slice sa ls.length scap)).toArray (HZ.out.res) (one_Dec _ _ _ _ _ _ _) ?_))
  exact MidD.done Tryz.results32 HZ.out hBl (by omega) rfl
 ·go_wp2_with fail
  refine (l10Bent_any B _ H3.out.up.cur).mono ?_
  rintro r w4 ⟨⟨xk, xf, xb, xl, xt, xc, xa⟩, rfl, ht, hu4⟩
  have H4 := Lib.hid (H3.out.step hBl hu4.cur hu4.oth); clear H3 hu4
  have kD := box_cells H4.out.box; have fD := box_frozen H4.out.box; have hBD := box_lt H4.out.box; have hwD := H4.out.hD
  go_upto_region 25 with fail
  clear kD fD hBD hwD
  obtain ⟨wz, hwz⟩ : ∃ qw_, (((((((w4.setCell ⟨D, 20, none⟩ (.int .i64 xk)).setCell ⟨D, 21, none⟩ (.int .i64 xf)).setCell ⟨D, 22, none⟩ (.int .u64 xb)).setCell ⟨D, 23, none⟩ (.int .i64 xl)).setCell ⟨D, 24, none⟩ (.string xt)).setCell ⟨D, 25, none⟩ (.int .i64 xc)).setCell ⟨D, 26, none⟩ (.int .i64 xa)) = qw_ := ⟨_, rfl⟩
  rw [hwz]
  obtain ⟨z, hx_⟩ : ∃ qd_ : Dc, ⟨d.p, d.mode, d.bits, d.have_, d.start, d.at_, d.field, d.wire, d.want, d.utf, ⟨xk, xf, xb, xl, xt, xc, xa⟩⟩ = qd_ := ⟨_, rfl⟩
  have hb_ : wz.heap[D]? = some (.cells (Dc.cl z (.slice a xs.length cap) (.slice sa ls.length scap)).toArray 40 (0, 0)) := by rw [← hwz, ← hx_]; apply hset_eq; (repeat (first | (with_reducible exact H4.out.box) | (with_reducible apply hset_set) | (with_reducible apply hset_alloc))); simp only [List.setIfInBounds_toArray, List.set_cons_zero, List.set_cons_succ]
  have HZ := Lib.hid (show MidD w wz B D z xs ls a cap rs sa scap from H4.out.upd hBl (by rw [← hwz]; (repeat (first | (with_reducible refine only_cell ?_ _ _) | (with_reducible refine only_alloc ?_ _))); exact only_refl _ _) hb_); clear hb_ hwz hx_ H4
  go_wp2_with (first | ((with_reducible show wpList _ _ _ (⟨_, Op.load 40 _, _, _, _, _⟩ :: _) _ _); refine wlm D (Dc.cl z (.slice a xs.length cap) (.slice sa ls.length scap)) (range_of_box (t := 40) HZ.out.box) ?_) | ((with_reducible show wpList _ _ _ (⟨_, Op.store 40 _ _, _, _, _, _⟩ :: _) _ _); refine wsq w.heap.size (Dc.cl z (.slice a xs.length cap) (.slice sa ls.length scap)).toArray (HZ.out.res) (one_Dec _ _ _ _ _ _ _) ?_))
  exact MidD.done Tryz.results32 HZ.out hBl (by omega) rfl
 ·go_wp2_with fail
  have hal : Below w3.heap.size w3 (w3.alloc (.cells #[.int .i64 0, .int .i64 1000000000, .int .i64 1000000001, .int .i64 (-1), .int .i64 9223372036854775807] 3)) := (Below.refl _ _).alloc (Nat.le_refl _) _
  have Hq := Lib.hid (H3.out.keep hBl hal)
  refine (l1PickInt_any B w3.heap.size 5 [0, 1000000000, 1000000001, -1, 9223372036854775807] 3 _ Hq.out.up.cur (by have := H3.out.up.oth.size; omega) (hset_new rfl) (by simp) (by simp)).mono ?_
  rintro r w4 ⟨q, rfl, hcq, hoq⟩
  have H4 := Lib.hid (Hq.out.step hBl hcq hoq); clear hcq hoq hal Hq H3
  have kD := box_cells H4.out.box; have fD := box_frozen H4.out.box; have hBD := box_lt H4.out.box; have hwD := H4.out.hD
  go_upto_region 25 with fail
  clear kD fD hBD hwD
  obtain ⟨wz, hwz⟩ : ∃ qw_, (w4.setCell ⟨D, 9, none⟩ (.int .i64 q)) = qw_ := ⟨_, rfl⟩
  rw [hwz]
  obtain ⟨z, hx_⟩ : ∃ qd_ : Dc, ⟨d.p, d.mode, d.bits, d.have_, d.start, q, d.field, d.wire, d.want, d.utf, d.end_⟩ = qd_ := ⟨_, rfl⟩
  have hb_ : wz.heap[D]? = some (.cells (Dc.cl z (.slice a xs.length cap) (.slice sa ls.length scap)).toArray 40 (0, 0)) := by rw [← hwz, ← hx_]; apply hset_eq; (repeat (first | (with_reducible exact H4.out.box) | (with_reducible apply hset_set) | (with_reducible apply hset_alloc))); simp only [List.setIfInBounds_toArray, List.set_cons_zero, List.set_cons_succ]
  have HZ := Lib.hid (show MidD w wz B D z xs ls a cap rs sa scap from H4.out.upd hBl (by rw [← hwz]; (repeat (first | (with_reducible refine only_cell ?_ _ _) | (with_reducible refine only_alloc ?_ _))); exact only_refl _ _) hb_); clear hb_ hwz hx_ H4
  go_wp2_with (first | ((with_reducible show wpList _ _ _ (⟨_, Op.load 40 _, _, _, _, _⟩ :: _) _ _); refine wlm D (Dc.cl z (.slice a xs.length cap) (.slice sa ls.length scap)) (range_of_box (t := 40) HZ.out.box) ?_) | ((with_reducible show wpList _ _ _ (⟨_, Op.store 40 _ _, _, _, _, _⟩ :: _) _ _); refine wsq w.heap.size (Dc.cl z (.slice a xs.length cap) (.slice sa ls.length scap)).toArray (HZ.out.res) (one_Dec _ _ _ _ _ _ _) ?_))
  exact MidD.done Tryz.results32 HZ.out hBl (by omega) rfl
 ·skip
  have kD := box_cells H3.out.box; have fD := box_frozen H3.out.box; have hBD := box_lt H3.out.box; have hwD := H3.out.hD
  obtain ⟨at2, hat⟩ : ∃ q, wrap64 (d.at_ + 1) = q := ⟨_, rfl⟩
  go_wp2_with fail
  simp only [hat]
  clear hat
  clear kD fD hBD hwD
  have hal : Below w3.heap.size w3 (w3.alloc (.cells #[.int .i64 0, .int .i64 d.at_, .int .i64 at2, .int .i64 (-1)] 3)) := (Below.refl _ _).alloc (Nat.le_refl _) _
  have Hq := Lib.hid (H3.out.keep hBl hal)
  refine (l1PickInt_any B w3.heap.size 4 [0, d.at_, at2, -1] 3 _ Hq.out.up.cur (by have := H3.out.up.oth.size; omega) (hset_new rfl) (by simp) (by simp)).mono ?_
  rintro r w4 ⟨q, rfl, hcq, hoq⟩
  have H4 := Lib.hid (Hq.out.step hBl hcq hoq); clear hcq hoq hal Hq H3
  have kD := box_cells H4.out.box; have fD := box_frozen H4.out.box; have hBD := box_lt H4.out.box; have hwD := H4.out.hD
  go_upto_region 25 with fail
  clear kD fD hBD hwD
  obtain ⟨wz, hwz⟩ : ∃ qw_, (w4.setCell ⟨D, 8, none⟩ (.int .i64 q)) = qw_ := ⟨_, rfl⟩
  rw [hwz]
  obtain ⟨z, hx_⟩ : ∃ qd_ : Dc, ⟨d.p, d.mode, d.bits, d.have_, q, d.at_, d.field, d.wire, d.want, d.utf, d.end_⟩ = qd_ := ⟨_, rfl⟩
  have hb_ : wz.heap[D]? = some (.cells (Dc.cl z (.slice a xs.length cap) (.slice sa ls.length scap)).toArray 40 (0, 0)) := by rw [← hwz, ← hx_]; apply hset_eq; (repeat (first | (with_reducible exact H4.out.box) | (with_reducible apply hset_set) | (with_reducible apply hset_alloc))); simp only [List.setIfInBounds_toArray, List.set_cons_zero, List.set_cons_succ]
  have HZ := Lib.hid (show MidD w wz B D z xs ls a cap rs sa scap from H4.out.upd hBl (by rw [← hwz]; (repeat (first | (with_reducible refine only_cell ?_ _ _) | (with_reducible refine only_alloc ?_ _))); exact only_refl _ _) hb_); clear hb_ hwz hx_ H4
  go_wp2_with (first | ((with_reducible show wpList _ _ _ (⟨_, Op.load 40 _, _, _, _, _⟩ :: _) _ _); refine wlm D (Dc.cl z (.slice a xs.length cap) (.slice sa ls.length scap)) (range_of_box (t := 40) HZ.out.box) ?_) | ((with_reducible show wpList _ _ _ (⟨_, Op.store 40 _ _, _, _, _, _⟩ :: _) _ _); refine wsq w.heap.size (Dc.cl z (.slice a xs.length cap) (.slice sa ls.length scap)).toArray (HZ.out.res) (one_Dec _ _ _ _ _ _ _) ?_))
  exact MidD.done Tryz.results32 HZ.out hBl (by omega) rfl
 ·go_wp2_with fail
  refine (l1Below_any B 4 _ H3.out.up.cur (by omega) (by omega)).mono ?_
  rintro r w4 ⟨q, rfl, hq0, hq1, hcq, hoq⟩
  have H4 := Lib.hid (H3.out.step hBl hcq hoq); clear hcq hoq H3
  have kD := box_cells H4.out.box; have fD := box_frozen H4.out.box; have hBD := box_lt H4.out.box; have hwD := H4.out.hD
  go_upto_region 25 with fail
  clear kD fD hBD hwD
  obtain ⟨wz, hwz⟩ : ∃ qw_, (w4.setCell ⟨D, 2, none⟩ (.int .i64 q)) = qw_ := ⟨_, rfl⟩
  rw [hwz]
  obtain ⟨z, hx_⟩ : ∃ qd_ : Dc, ⟨⟨d.p.root, q, d.p.most⟩, d.mode, d.bits, d.have_, d.start, d.at_, d.field, d.wire, d.want, d.utf, d.end_⟩ = qd_ := ⟨_, rfl⟩
  have hb_ : wz.heap[D]? = some (.cells (Dc.cl z (.slice a xs.length cap) (.slice sa ls.length scap)).toArray 40 (0, 0)) := by rw [← hwz, ← hx_]; apply hset_eq; (repeat (first | (with_reducible exact H4.out.box) | (with_reducible apply hset_set) | (with_reducible apply hset_alloc))); simp only [List.setIfInBounds_toArray, List.set_cons_zero, List.set_cons_succ]
  have HZ := Lib.hid (show MidD w wz B D z xs ls a cap rs sa scap from H4.out.upd hBl (by rw [← hwz]; (repeat (first | (with_reducible refine only_cell ?_ _ _) | (with_reducible refine only_alloc ?_ _))); exact only_refl _ _) hb_); clear hb_ hwz hx_ H4
  go_wp2_with (first | ((with_reducible show wpList _ _ _ (⟨_, Op.load 40 _, _, _, _, _⟩ :: _) _ _); refine wlm D (Dc.cl z (.slice a xs.length cap) (.slice sa ls.length scap)) (range_of_box (t := 40) HZ.out.box) ?_) | ((with_reducible show wpList _ _ _ (⟨_, Op.store 40 _ _, _, _, _, _⟩ :: _) _ _); refine wsq w.heap.size (Dc.cl z (.slice a xs.length cap) (.slice sa ls.length scap)).toArray (HZ.out.res) (one_Dec _ _ _ _ _ _ _) ?_))
  exact MidD.done Tryz.results32 HZ.out hBl (by omega) rfl
 ·have e0 : (x == 0) = false := by simp; omega
  have e1 : (x == 1) = false := by simp; omega
  have e2 : (x == 2) = false := by simp; omega
  have e3 : (x == 3) = false := by simp; omega
  have e4 : (x == 4) = false := by simp; omega
  have e5 : (x == 5) = false := by simp; omega
  have e6 : (x == 6) = false := by simp; omega
  have e7 : (x == 7) = false := by simp; omega
  have e8 : (x == 8) = false := by simp; omega
  have e9 : (x == 9) = false := by simp; omega
  have e10 : (x == 10) = false := by simp; omega
  clear hx11 hx0 hx1
  go_upto_region 25 with fail
  go_wp2_with (first | ((with_reducible show wpList _ _ _ (⟨_, Op.load 40 _, _, _, _, _⟩ :: _) _ _); refine wlm D (Dc.cl d (.slice a xs.length cap) (.slice sa ls.length scap)) (range_of_box (t := 40) H3.out.box) ?_) | ((with_reducible show wpList _ _ _ (⟨_, Op.store 40 _ _, _, _, _, _⟩ :: _) _ _); refine wsq w.heap.size (Dc.cl d (.slice a xs.length cap) (.slice sa ls.length scap)).toArray (H3.out.res) (one_Dec _ _ _ _ _ _ _) ?_))
  exact MidD.done Tryz.results32 H3.out hBl (by omega) rfl
theorem MidD.lvs {w wr w' : World} {B D g : Nat} {d : Dc} {xs : List Shp} {ls ls' : List Lvl} {a : Option Addr} {cap : Nat} {rs : List ShR} {scap : Nat} (h : MidD w wr B D d xs ls a cap rs (some ⟨g, 0, none⟩) scap) (hB : B < w.heap.size) (hG : wr.grownBy w' (some g)) (hl : ls'.length = ls.length)
  (hv : w'.ownsRow (w.heap.size + 1) 67 2 (.slice (some ⟨g, 0, none⟩) ls'.length scap) ls'.length (ls'.flatMap Lvl.cs)) : MidD w w' B D d xs ls' a cap rs (some ⟨g, 0, none⟩) scap := by
 have oth : ∀ t, 67 ≠ t → Other wr (some g) t := fun t ht => (show Other wr (Value.slice (some ⟨g, 0, none⟩) ls.length scap).ownBlock t from other_own h.lv ht)
 have hg := h.lv.lt g rfl
 obtain ⟨cur, hcur⟩ := own_blk h.lv (g := g) rfl
 have hne : ∀ k cs, wr.heap[k]? = some (.cells cs 40 (0, 0)) → k ≠ g := fun k cs hk e => by subst e; exact absurd (typed_neL hcur hk) (by decide)
 have hb := (hG.block _ (box_lt h.box) (by have := hne _ _ h.box; simp only [ne_eq, Option.some.injEq]; omega)).trans h.box
 rw [← hl] at hb
 exact ⟨hb, (hG.block _ (box_lt h.res) (by have := hne _ _ h.res; simp only [ne_eq, Option.some.injEq]; omega)).trans h.res, h.sh.keepBy hG (oth _ (by decide)) (oth _ (by decide)), hv, h.up.grown hB hG (fun q e => by have := Option.some.inj e; omega), h.hD, h.hs⟩
set_option maxRecDepth 100000 in
set_option maxHeartbeats 8000000 in
theorem l15Draw_any (B : Nat) (w : World) (hc : Cur w B) : Calls Tryz.prog 42 #[.pointer (some ⟨B, 0, none⟩)] w (DrawnD B 9 w) := by
 have hBl := hc.lt
 go_enter Tryz.func42, Tryz.ntmps42
 go_wp2_with fail
 refine (l14Bent_any B _ (hc.below bl)).mono ?_
 rintro r w1 ⟨d, xs, ls, a, cap, rs, sa, scap, rfl, ho, hl, hs, h8, hu⟩
 have hz1 := hu.oth.size
 simp only [World.size_alloc] at hz1 ho hl
 have hR1 := Lib.hid ((hu.oth.block (b := w.heap.size) (by simp) (by omega)).trans (hset_new (o := .cells dz0.toArray 40) rfl))
 have hu1 := Lib.hid (((Up.refl hc).alloc hBl _).step hu.cur hu.oth)
 have hb3 : Below w1.heap.size w1 ((w1.alloc (.cells dz0.toArray 40)).setRow w1.heap.size (Dc.cl d (.slice a xs.length cap) (.slice sa ls.length scap)).toArray) := by exact bl
 have hD3 : ((w1.alloc (.cells dz0.toArray 40)).setRow w1.heap.size (Dc.cl d (.slice a xs.length cap) (.slice sa ls.length scap)).toArray).heap[w1.heap.size]? = some (.cells (Dc.cl d (.slice a xs.length cap) (.slice sa ls.length scap)).toArray 40 (0, 0)) := hset_row (cs := dz0.toArray) (hset_new rfl)
 have HO := Lib.hid ho; have HL := Lib.hid hl; clear ho hl hu
 go_upto_region 2 with (first | ((with_reducible show wpList _ _ _ (⟨_, Op.store 40 _ _, _, _, _, _⟩ :: _) _ _); refine wsq w1.heap.size (Dc.cl d (.slice a xs.length cap) (.slice sa ls.length scap)).toArray (hset_new rfl) (one_Dec _ _ _ _ _ _ _) ?_))
 obtain ⟨w2, hw2⟩ : ∃ q, ((w1.alloc (.cells dz0.toArray 40)).setRow w1.heap.size (Dc.cl d (.slice a xs.length cap) (.slice sa ls.length scap)).toArray) = q := ⟨_, rfl⟩
 rw [hw2] at hb3 hD3 ⊢
 clear hw2
 have HM := Lib.hid (show MidD w w2 B w1.heap.size d xs ls a cap rs sa scap from ⟨hD3, (hb3.block _ (box_lt hR1.out)).trans hR1.out, (HO.out.chain hb3 (Nat.le_refl _)).le (by omega), owns_le (owns_below HL.out hb3 (Nat.le_refl _)) (by omega), hu1.out.below hBl hb3 (by have := hu1.out.oth.size; omega), by omega, hs⟩)
 obtain ⟨D, hD⟩ : ∃ q, w1.heap.size = q := ⟨_, rfl⟩
 rw [hD] at HM
 try simp only [hD]
 clear hb3 hD3 HO HL hu1 hR1 hD hz1
 try simp only [Act.put]
 have kD := box_cells HM.out.box; have fD := box_frozen HM.out.box; have hBD := box_lt HM.out.box; have hwD := HM.out.hD
 obtain ⟨L, hL⟩ : ∃ q, ls.length = q := ⟨_, rfl⟩
 rw [hL] at kD
 have HLL := Lib.hid hL; clear hL
 go_wp2_with fail
 clear kD fD hBD hwD
 refine (l1Below_any B 4 _ HM.out.up.cur (by omega) (by omega)).mono ?_
 rintro r w3 ⟨x, rfl, hx0, hx1, hc3, ho3⟩
 have H3 := Lib.hid (HM.out.step hBl hc3 ho3); clear HM hc3 ho3
 rcases (show x = 0 ∨ x = 1 ∨ 2 ≤ x by omega) with rfl | rfl | hx2
 ·skip
  have kD := box_cells H3.out.box; have fD := box_frozen H3.out.box; have hBD := box_lt H3.out.box; have hwD := H3.out.hD
  go_upto_region 12 with fail
  clear kD fD hBD hwD
  obtain ⟨w4, hw4⟩ : ∃ qw_, (((w3.setCell ⟨D, 16, none⟩ (.int .i64 0)).setCell ⟨D, 6, none⟩ (.int .u64 0)).setCell ⟨D, 7, none⟩ (.int .i64 0)) = qw_ := ⟨_, rfl⟩
  rw [hw4]
  obtain ⟨y, hx_⟩ : ∃ qd_ : Dc, ⟨d.p, d.mode, 0, 0, d.start, d.at_, d.field, d.wire, 0, d.utf, d.end_⟩ = qd_ := ⟨_, rfl⟩
  have hb_ : w4.heap[D]? = some (.cells (Dc.cl y (.slice a xs.length cap) (.slice sa ls.length scap)).toArray 40 (0, 0)) := by rw [← hw4, ← hx_]; apply hset_eq; (repeat (first | (with_reducible exact H3.out.box) | (with_reducible apply hset_set) | (with_reducible apply hset_alloc))); simp only [List.setIfInBounds_toArray, List.set_cons_zero, List.set_cons_succ]
  have H4 := Lib.hid (show MidD w w4 B D y xs ls a cap rs sa scap from H3.out.upd hBl (by rw [← hw4]; (repeat (first | (with_reducible refine only_cell ?_ _ _) | (with_reducible refine only_alloc ?_ _))); exact only_refl _ _) hb_); clear hb_ hw4 hx_ H3
  go_wp2_with fail
  refine (l1Once_any B 3 _ H4.out.up.cur (by omega) (by omega)).mono ?_
  rintro r w6 ⟨b6, rfl, hcq, hoq⟩
  have H6 := Lib.hid (H4.out.step hBl hcq hoq); clear hcq hoq H4
  cases b6
  ·skip
   go_wp2_with (first | ((with_reducible show wpList _ _ _ (⟨_, Op.load 40 _, _, _, _, _⟩ :: _) _ _); refine wlm D (Dc.cl y (.slice a xs.length cap) (.slice sa ls.length scap)) (range_of_box (t := 40) H6.out.box) ?_) | ((with_reducible show wpList _ _ _ (⟨_, Op.store 40 _ _, _, _, _, _⟩ :: _) _ _); refine wsq w.heap.size (Dc.cl y (.slice a xs.length cap) (.slice sa ls.length scap)).toArray (H6.out.res) (one_Dec _ _ _ _ _ _ _) ?_))
   exact MidD.done Tryz.results42 H6.out hBl (by omega) rfl
  ·go_wp2_with fail
   refine (l1Below_any B 9 _ H6.out.up.cur (by omega) (by omega)).mono ?_
   rintro r w7 ⟨v, rfl, hv0, hv1, hcq, hoq⟩
   have H7 := Lib.hid (H6.out.step hBl hcq hoq); clear hcq hoq H6
   have kD := box_cells H7.out.box; have fD := box_frozen H7.out.box; have hBD := box_lt H7.out.box; have hwD := H7.out.hD
   go_upto_region 14 with fail
   clear kD fD hBD hwD
   obtain ⟨wz, hwz⟩ : ∃ qw_, (w7.setCell ⟨D, 4, none⟩ (.int .i64 (1 + v))) = qw_ := ⟨_, rfl⟩
   rw [hwz]
   obtain ⟨z, hx_⟩ : ∃ qd_ : Dc, ⟨y.p, 1 + v, y.bits, y.have_, y.start, y.at_, y.field, y.wire, y.want, y.utf, y.end_⟩ = qd_ := ⟨_, rfl⟩
   have hb_ : wz.heap[D]? = some (.cells (Dc.cl z (.slice a xs.length cap) (.slice sa ls.length scap)).toArray 40 (0, 0)) := by rw [← hwz, ← hx_]; apply hset_eq; (repeat (first | (with_reducible exact H7.out.box) | (with_reducible apply hset_set) | (with_reducible apply hset_alloc))); simp only [List.setIfInBounds_toArray, List.set_cons_zero, List.set_cons_succ]
   have HZ := Lib.hid (show MidD w wz B D z xs ls a cap rs sa scap from H7.out.upd hBl (by rw [← hwz]; (repeat (first | (with_reducible refine only_cell ?_ _ _) | (with_reducible refine only_alloc ?_ _))); exact only_refl _ _) hb_); clear hb_ hwz hx_ H7
   go_wp2_with (first | ((with_reducible show wpList _ _ _ (⟨_, Op.load 40 _, _, _, _, _⟩ :: _) _ _); refine wlm D (Dc.cl z (.slice a xs.length cap) (.slice sa ls.length scap)) (range_of_box (t := 40) HZ.out.box) ?_) | ((with_reducible show wpList _ _ _ (⟨_, Op.store 40 _ _, _, _, _, _⟩ :: _) _ _); refine wsq w.heap.size (Dc.cl z (.slice a xs.length cap) (.slice sa ls.length scap)).toArray (HZ.out.res) (one_Dec _ _ _ _ _ _ _) ?_))
   exact MidD.done Tryz.results42 HZ.out hBl (by omega) rfl
 ·rcases L with _ | m
  ·skip
   go_wp2_with fail
   refine (l1Once_any B 3 _ H3.out.up.cur (by omega) (by omega)).mono ?_
   rintro r w6 ⟨b6, rfl, hcq, hoq⟩
   have H6 := Lib.hid (H3.out.step hBl hcq hoq); clear hcq hoq H3
   cases b6
   ·skip
    go_wp2_with (first | ((with_reducible show wpList _ _ _ (⟨_, Op.load 40 _, _, _, _, _⟩ :: _) _ _); refine wlm D (Dc.cl d (.slice a xs.length cap) (.slice sa ls.length scap)) (range_of_box (t := 40) H6.out.box) ?_) | ((with_reducible show wpList _ _ _ (⟨_, Op.store 40 _ _, _, _, _, _⟩ :: _) _ _); refine wsq w.heap.size (Dc.cl d (.slice a xs.length cap) (.slice sa ls.length scap)).toArray (H6.out.res) (one_Dec _ _ _ _ _ _ _) ?_))
    exact MidD.done Tryz.results42 H6.out hBl (by omega) rfl
   ·go_wp2_with fail
    refine (l1Below_any B 9 _ H6.out.up.cur (by omega) (by omega)).mono ?_
    rintro r w7 ⟨v, rfl, hv0, hv1, hcq, hoq⟩
    have H7 := Lib.hid (H6.out.step hBl hcq hoq); clear hcq hoq H6
    have kD := box_cells H7.out.box; have fD := box_frozen H7.out.box; have hBD := box_lt H7.out.box; have hwD := H7.out.hD
    go_upto_region 14 with fail
    clear kD fD hBD hwD
    obtain ⟨wz, hwz⟩ : ∃ qw_, (w7.setCell ⟨D, 4, none⟩ (.int .i64 (1 + v))) = qw_ := ⟨_, rfl⟩
    rw [hwz]
    obtain ⟨z, hx_⟩ : ∃ qd_ : Dc, ⟨d.p, 1 + v, d.bits, d.have_, d.start, d.at_, d.field, d.wire, d.want, d.utf, d.end_⟩ = qd_ := ⟨_, rfl⟩
    have hb_ : wz.heap[D]? = some (.cells (Dc.cl z (.slice a xs.length cap) (.slice sa ls.length scap)).toArray 40 (0, 0)) := by rw [← hwz, ← hx_]; apply hset_eq; (repeat (first | (with_reducible exact H7.out.box) | (with_reducible apply hset_set) | (with_reducible apply hset_alloc))); simp only [List.setIfInBounds_toArray, List.set_cons_zero, List.set_cons_succ]
    have HZ := Lib.hid (show MidD w wz B D z xs ls a cap rs sa scap from H7.out.upd hBl (by rw [← hwz]; (repeat (first | (with_reducible refine only_cell ?_ _ _) | (with_reducible refine only_alloc ?_ _))); exact only_refl _ _) hb_); clear hb_ hwz hx_ H7
    go_wp2_with (first | ((with_reducible show wpList _ _ _ (⟨_, Op.load 40 _, _, _, _, _⟩ :: _) _ _); refine wlm D (Dc.cl z (.slice a xs.length cap) (.slice sa ls.length scap)) (range_of_box (t := 40) HZ.out.box) ?_) | ((with_reducible show wpList _ _ _ (⟨_, Op.store 40 _ _, _, _, _, _⟩ :: _) _ _); refine wsq w.heap.size (Dc.cl z (.slice a xs.length cap) (.slice sa ls.length scap)).toArray (HZ.out.res) (one_Dec _ _ _ _ _ _ _) ?_))
    exact MidD.done Tryz.results42 HZ.out hBl (by omega) rfl
  ·have hml := HLL.out
   obtain ⟨l, he⟩ : ∃ l, ls[m]? = some l := ⟨_, List.getElem?_eq_getElem (by omega)⟩
   obtain ⟨g, rfl, hg0, hg1⟩ := own_pos H3.out.lv (by omega)
   have kD := box_cells H3.out.box; have fD := box_frozen H3.out.box; have hBD := box_lt H3.out.box; have hwD := H3.out.hD
   rw [hml] at kD
   have hl0 : decide ((0 : Int) < (m : Int) + 1) = true := by first | (simp; done) | (simp; omega)
   have hmw : IntKind.i64.wrap (m : Int) = m := IntWalk.i64_in _ (by omega)
   have hm0 : (0 : Int) ≤ (m : Int) := by omega
   have hmlt : (m : Int) < (m : Int) + 1 := by omega
   have HML := Lib.hid hml; have HHE := Lib.hid he; clear hml he
   have hfzg : ∀ j, w3.frozen? ⟨g, j, none⟩ = false := H3.out.lv.frozenAt
   obtain ⟨ug, hug⟩ := owns_some H3.out.lv (m * 2 + 1) (by have := HML.out; omega)
   go_upto_region 10 with fail
   clear kD fD hBD hwD
   obtain ⟨w4, hw4⟩ : ∃ qw_, w3.setCell ⟨g, m * 2 + 1, none⟩ (.int .i64 0) = qw_ := ⟨_, rfl⟩
   rw [hw4]
   have H4 := Lib.hid (show MidD w w4 B D d xs (ls.set m ⟨l.msg, 0⟩) a cap rs (some ⟨g, 0, none⟩) scap from H3.out.lvs hBl (by rw [← hw4]; exact only_set _ _ _ _) (by rw [List.length_set]) (by rw [← hw4, List.length_set, ← flat_setL HHE.out]; exact (H3.out.lv.stored (m * 2 + 1) _).1)); clear hw4 H3 hfzg hug
   obtain ⟨ls2, hls2⟩ : ∃ q_, ls.set m ⟨l.msg, 0⟩ = q_ := ⟨_, rfl⟩
   have h82 : ls2.length ≤ 9 := by rw [← hls2, List.length_set]; omega
   rw [hls2] at H4
   clear hls2
   have kD := box_cells H4.out.box; have fD := box_frozen H4.out.box; have hBD := box_lt H4.out.box; have hwD := H4.out.hD
   go_upto_region 12 with fail
   clear kD fD hBD hwD
   obtain ⟨w5, hw5⟩ : ∃ qw_, (((w4.setCell ⟨D, 16, none⟩ (.int .i64 0)).setCell ⟨D, 6, none⟩ (.int .u64 0)).setCell ⟨D, 7, none⟩ (.int .i64 0)) = qw_ := ⟨_, rfl⟩
   rw [hw5]
   obtain ⟨y, hx_⟩ : ∃ qd_ : Dc, ⟨d.p, d.mode, 0, 0, d.start, d.at_, d.field, d.wire, 0, d.utf, d.end_⟩ = qd_ := ⟨_, rfl⟩
   have hb_ : w5.heap[D]? = some (.cells (Dc.cl y (.slice a xs.length cap) (.slice (some ⟨g, 0, none⟩) ls2.length scap)).toArray 40 (0, 0)) := by rw [← hw5, ← hx_]; apply hset_eq; (repeat (first | (with_reducible exact H4.out.box) | (with_reducible apply hset_set) | (with_reducible apply hset_alloc))); simp only [List.setIfInBounds_toArray, List.set_cons_zero, List.set_cons_succ]
   have H5 := Lib.hid (show MidD w w5 B D y xs ls2 a cap rs (some ⟨g, 0, none⟩) scap from H4.out.upd hBl (by rw [← hw5]; (repeat (first | (with_reducible refine only_cell ?_ _ _) | (with_reducible refine only_alloc ?_ _))); exact only_refl _ _) hb_); clear hb_ hw5 hx_ H4
   go_wp2_with fail
   refine (l1Once_any B 3 _ H5.out.up.cur (by omega) (by omega)).mono ?_
   rintro r w6 ⟨b6, rfl, hcq, hoq⟩
   have H6 := Lib.hid (H5.out.step hBl hcq hoq); clear hcq hoq H5
   cases b6
   ·skip
    go_wp2_with (first | ((with_reducible show wpList _ _ _ (⟨_, Op.load 40 _, _, _, _, _⟩ :: _) _ _); refine wlm D (Dc.cl y (.slice a xs.length cap) (.slice (some ⟨g, 0, none⟩) ls2.length scap)) (range_of_box (t := 40) H6.out.box) ?_) | ((with_reducible show wpList _ _ _ (⟨_, Op.store 40 _ _, _, _, _, _⟩ :: _) _ _); refine wsq w.heap.size (Dc.cl y (.slice a xs.length cap) (.slice (some ⟨g, 0, none⟩) ls2.length scap)).toArray (H6.out.res) (one_Dec _ _ _ _ _ _ _) ?_))
    exact MidD.done Tryz.results42 H6.out hBl (by omega) rfl
   ·go_wp2_with fail
    refine (l1Below_any B 9 _ H6.out.up.cur (by omega) (by omega)).mono ?_
    rintro r w7 ⟨v, rfl, hv0, hv1, hcq, hoq⟩
    have H7 := Lib.hid (H6.out.step hBl hcq hoq); clear hcq hoq H6
    have kD := box_cells H7.out.box; have fD := box_frozen H7.out.box; have hBD := box_lt H7.out.box; have hwD := H7.out.hD
    go_upto_region 14 with fail
    clear kD fD hBD hwD
    obtain ⟨wz, hwz⟩ : ∃ qw_, (w7.setCell ⟨D, 4, none⟩ (.int .i64 (1 + v))) = qw_ := ⟨_, rfl⟩
    rw [hwz]
    obtain ⟨z, hx_⟩ : ∃ qd_ : Dc, ⟨y.p, 1 + v, y.bits, y.have_, y.start, y.at_, y.field, y.wire, y.want, y.utf, y.end_⟩ = qd_ := ⟨_, rfl⟩
    have hb_ : wz.heap[D]? = some (.cells (Dc.cl z (.slice a xs.length cap) (.slice (some ⟨g, 0, none⟩) ls2.length scap)).toArray 40 (0, 0)) := by rw [← hwz, ← hx_]; apply hset_eq; (repeat (first | (with_reducible exact H7.out.box) | (with_reducible apply hset_set) | (with_reducible apply hset_alloc))); simp only [List.setIfInBounds_toArray, List.set_cons_zero, List.set_cons_succ]
    have HZ := Lib.hid (show MidD w wz B D z xs ls2 a cap rs (some ⟨g, 0, none⟩) scap from H7.out.upd hBl (by rw [← hwz]; (repeat (first | (with_reducible refine only_cell ?_ _ _) | (with_reducible refine only_alloc ?_ _))); exact only_refl _ _) hb_); clear hb_ hwz hx_ H7
    go_wp2_with (first | ((with_reducible show wpList _ _ _ (⟨_, Op.load 40 _, _, _, _, _⟩ :: _) _ _); refine wlm D (Dc.cl z (.slice a xs.length cap) (.slice (some ⟨g, 0, none⟩) ls2.length scap)) (range_of_box (t := 40) HZ.out.box) ?_) | ((with_reducible show wpList _ _ _ (⟨_, Op.store 40 _ _, _, _, _, _⟩ :: _) _ _); refine wsq w.heap.size (Dc.cl z (.slice a xs.length cap) (.slice (some ⟨g, 0, none⟩) ls2.length scap)).toArray (HZ.out.res) (one_Dec _ _ _ _ _ _ _) ?_))
    exact MidD.done Tryz.results42 HZ.out hBl (by omega) rfl
 ·have e0 : (x == 0) = false := by simp; omega
  have e1 : (x == 1) = false := by simp; omega
  clear hx2 hx0 hx1
  go_wp2_with fail
  refine (l1Once_any B 3 _ H3.out.up.cur (by omega) (by omega)).mono ?_
  rintro r w6 ⟨b6, rfl, hcq, hoq⟩
  have H6 := Lib.hid (H3.out.step hBl hcq hoq); clear hcq hoq H3
  cases b6
  ·skip
   go_wp2_with (first | ((with_reducible show wpList _ _ _ (⟨_, Op.load 40 _, _, _, _, _⟩ :: _) _ _); refine wlm D (Dc.cl d (.slice a xs.length cap) (.slice sa ls.length scap)) (range_of_box (t := 40) H6.out.box) ?_) | ((with_reducible show wpList _ _ _ (⟨_, Op.store 40 _ _, _, _, _, _⟩ :: _) _ _); refine wsq w.heap.size (Dc.cl d (.slice a xs.length cap) (.slice sa ls.length scap)).toArray (H6.out.res) (one_Dec _ _ _ _ _ _ _) ?_))
   exact MidD.done Tryz.results42 H6.out hBl (by omega) rfl
  ·go_wp2_with fail
   refine (l1Below_any B 9 _ H6.out.up.cur (by omega) (by omega)).mono ?_
   rintro r w7 ⟨v, rfl, hv0, hv1, hcq, hoq⟩
   have H7 := Lib.hid (H6.out.step hBl hcq hoq); clear hcq hoq H6
   have kD := box_cells H7.out.box; have fD := box_frozen H7.out.box; have hBD := box_lt H7.out.box; have hwD := H7.out.hD
   go_upto_region 14 with fail
   clear kD fD hBD hwD
   obtain ⟨wz, hwz⟩ : ∃ qw_, (w7.setCell ⟨D, 4, none⟩ (.int .i64 (1 + v))) = qw_ := ⟨_, rfl⟩
   rw [hwz]
   obtain ⟨z, hx_⟩ : ∃ qd_ : Dc, ⟨d.p, 1 + v, d.bits, d.have_, d.start, d.at_, d.field, d.wire, d.want, d.utf, d.end_⟩ = qd_ := ⟨_, rfl⟩
   have hb_ : wz.heap[D]? = some (.cells (Dc.cl z (.slice a xs.length cap) (.slice sa ls.length scap)).toArray 40 (0, 0)) := by rw [← hwz, ← hx_]; apply hset_eq; (repeat (first | (with_reducible exact H7.out.box) | (with_reducible apply hset_set) | (with_reducible apply hset_alloc))); simp only [List.setIfInBounds_toArray, List.set_cons_zero, List.set_cons_succ]
   have HZ := Lib.hid (show MidD w wz B D z xs ls a cap rs sa scap from H7.out.upd hBl (by rw [← hwz]; (repeat (first | (with_reducible refine only_cell ?_ _ _) | (with_reducible refine only_alloc ?_ _))); exact only_refl _ _) hb_); clear hb_ hwz hx_ H7
   go_wp2_with (first | ((with_reducible show wpList _ _ _ (⟨_, Op.load 40 _, _, _, _, _⟩ :: _) _ _); refine wlm D (Dc.cl z (.slice a xs.length cap) (.slice sa ls.length scap)) (range_of_box (t := 40) HZ.out.box) ?_) | ((with_reducible show wpList _ _ _ (⟨_, Op.store 40 _ _, _, _, _, _⟩ :: _) _ _); refine wsq w.heap.size (Dc.cl z (.slice a xs.length cap) (.slice sa ls.length scap)).toArray (HZ.out.res) (one_Dec _ _ _ _ _ _ _) ?_))
   exact MidD.done Tryz.results42 HZ.out hBl (by omega) rfl
def sameDec (d : Dc) (xs : List Shp) (ls : List Lvl) (e : Dc) (ys : List Shp) (ms : List Lvl) : Bool :=
 decide (xs = ys) && ((d.p.root == e.p.root) && ((d.p.deep == e.p.deep) && ((d.p.most == e.p.most) && ((d.mode == e.mode) && (decide (ls = ms) && (sameS d.bits d.have_ e.bits e.have_ && ((d.start == e.start) && ((d.at_ == e.at_) && (sameF ⟨d.field.number, d.field.kind, d.field.rep, d.field.packed, d.field.msg⟩ ⟨e.field.number, e.field.kind, e.field.rep, e.field.packed, e.field.msg⟩ && ((d.wire == e.wire) && ((d.want == e.want) && (sameU ⟨d.utf.want, d.utf.low, d.utf.high⟩ ⟨e.utf.want, e.utf.low, e.utf.high⟩ && (sameEv ⟨d.end_.kind, d.end_.field, d.end_.bits, d.end_.len, d.end_.text, d.end_.code, d.end_.at_⟩ ⟨e.end_.kind, e.end_.field, e.end_.bits, e.end_.len, e.end_.text, e.end_.code, e.end_.at_⟩)))))))))))))
def sameLv (a b a' b' : Int) : Bool := decide (a = a' ∧ b = b')
theorem sameLv_eq (x y : Lvl) : sameLv x.msg x.left y.msg y.left = decide (x = y) := by
 obtain ⟨a, b⟩ := x
 obtain ⟨a', b'⟩ := y
 simp [sameLv]
theorem run_neq_lvl (a b a' b' : Int) (w : World) :
  (binOp .neq 67 (.agg #[.int .i64 a, .int .i64 b]) (.agg #[.int .i64 a', .int .i64 b'])).run Tryz.prog w = .ok (.bool (!sameLv a b a' b')) w := by
 simp [go_sem, sameLv]
 by_cases h1 : a = a' <;> by_cases h2 : b = b' <;> simp [h1, h2]
theorem run_eql_ev (k f b l c a k' f' b' l' c' a' : Int) (t t' : ByteArray) (w : World) :
  (binOp .eql 38 (.agg #[.int .i64 k, .int .i64 f, .int .u64 b, .int .i64 l, .string t, .int .i64 c, .int .i64 a]) (.agg #[.int .i64 k', .int .i64 f', .int .u64 b', .int .i64 l', .string t', .int .i64 c', .int .i64 a'])).run Tryz.prog w
   = .ok (.bool (sameEv (Ev.mk k f b l t c a) (Ev.mk k' f' b' l' t' c' a'))) w := by
 simp [go_sem, beq_bytes, sameEv]
 by_cases h1 : k = k' <;> by_cases h2 : f = f' <;> by_cases h3 : b = b' <;> by_cases h4 : l = l' <;> by_cases h5 : t = t' <;> by_cases h6 : c = c' <;> by_cases h7 : a = a' <;> simp [h1, h2, h3, h4, h5, h6, h7]
set_option maxHeartbeats 2000000 in
theorem slicesEqualLvl_any (a a' : Option Addr) (cap cap' n n' : Nat) (xs ys : List Lvl) (w : World) (h : Lvls w a xs) (h' : Lvls w a' ys) (hx : xs.length = n) (hy : ys.length = n') (hn : n ≤ 1048576) (hn' : n' ≤ 1048576) :
  Calls Tryz.prog 50 #[.slice a n cap, .slice a' n' cap'] w fun r w' => r = .returned (.bool (decide (xs = ys))) ∧ Below w.heap.size w w' := by
 have HX := Lib.hid hx; clear hx
 have HY := Lib.hid hy; clear hy
 by_cases hl : n = n'
 ·subst hl
  go_enter Tryz.func50, Tryz.ntmps50
  go_wp2
  go_loopw [4, 5, 13] (fun t i j wr => ∃ k : Nat, k ≤ n ∧ j = .int .i64 k ∧ t = .bool false ∧ Hid (xs.take k = ys.take k) ∧ Below w.heap.size w wr) (fun _ _ i _ => n - (intOf i).toNat)
  case atStart => exact ⟨0, Nat.zero_le _, rfl, rfl, Lib.hid rfl, Below.refl _ _⟩
  case round =>
   obtain ⟨k, hk, rfl, rfl, HT, hb⟩ := hrel
   have hz := hb.size
   by_cases hlt : k < n
   ·obtain ⟨e, he, _⟩ := at_lt (xs := xs) (k := k) (by rw [HX.out]; exact hlt)
    obtain ⟨f, hf, _⟩ := at_lt (xs := ys) (k := k) (by rw [HY.out]; exact hlt)
    have HE := Lib.hid he
    have HF := Lib.hid hf
    obtain ⟨b, off, rfl, hlb, c0, c1⟩ := Lvls.at (h.below hb (Nat.le_refl _)) he
    obtain ⟨b', off', rfl, hlb', d0, d1⟩ := Lvls.at (h'.below hb (Nat.le_refl _)) hf
    clear he hf
    by_cases hef : e = f
    ·have hd : sameLv e.msg e.left f.msg f.left = true := by rw [sameLv_eq]; simp [hef]
     have HD := Lib.hid hef; clear hef
     have HT2 := Lib.hid (take_same HT.out HE.out (by rw [HD.out]; exact HF.out))
     have hne := run_neq_lvl
     go_wp2_with fail
     (refine wp_region_ext (by kernel_rfl) (by kernel_rfl) ?_; (repeat (go_big_quiet_step (fail))); refine wpQuiet_nil ?_; intro w1 hb1; obtain ⟨hc1, hf1⟩ := bcell hb1; have hz1 := hb1.size; (try simp only [World.size_alloc, World.size_setCell, World.size_drew] at hz1))
     go_wp2
     go_roundw
     case rel => exact ⟨k + 1, by omega, by go_num, rfl, HT2, by exact bl⟩
     case measure => simp [intOf]; omega
    ·have hd : sameLv e.msg e.left f.msg f.left = false := by rw [sameLv_eq]; simp [hef]
     have HS := Lib.hid (ne_of_at HE.out HF.out hef)
     clear hef
     have hne := run_neq_lvl
     go_wp2_with fail
     (refine wp_region_ext (by kernel_rfl) (by kernel_rfl) ?_; (repeat (go_big_quiet_step (fail))); refine wpQuiet_nil ?_; intro w1 hb1; obtain ⟨hc1, hf1⟩ := bcell hb1; have hz1 := hb1.size; (try simp only [World.size_alloc, World.size_setCell, World.size_drew] at hz1))
     go_wp2
     go_ret
     exact ⟨ret_bool HS.out.symm, by exact bl⟩
   ·have HS := Lib.hid (take_end HT.out (by rw [HX.out]; omega) (by rw [HY.out]; omega))
    go_wp2
    go_ret
    exact ⟨ret_bool HS.out.symm, hb⟩
 ·have HS := Lib.hid (show decide (xs = ys) = false by
   simp only [decide_eq_false_iff_not]; intro hxy; subst hxy; exact hl (HX.out.symm.trans HY.out))
  have hl' : ((n : Int) != (n' : Int)) = true := by simp; omega
  go_enter Tryz.func50, Tryz.ntmps50
  go_wp2
  go_ret
  exact ⟨ret_bool HS.out.symm, Below.refl _ _⟩
set_option maxRecDepth 100000 in
set_option maxHeartbeats 16000000 in
theorem implSameDec_any (d : Dc) (a : Option Addr) (cap n : Nat) (xs : List Shp) (sa : Option Addr) (scap m : Nat) (ls : List Lvl) (e : Dc) (b : Option Addr) (bap k : Nat) (ys : List Shp) (sb : Option Addr) (sbap q : Nat) (ms : List Lvl) (w : World) (h : Shs w a xs) (h' : Lvls w sa ls) (hx : xs.length = n) (hl : ls.length = m) (hn : n ≤ 1048576) (hm : fldSum xs ≤ 1048576) (hm' : m ≤ 1048576) (i : Shs w b ys) (i' : Lvls w sb ms) (hy : ys.length = k) (hk : ms.length = q) (kn : k ≤ 1048576) (km : fldSum ys ≤ 1048576) (km' : q ≤ 1048576) :
  Calls Tryz.prog 21 #[d.val (.slice a n cap) (.slice sa m scap), e.val (.slice b k bap) (.slice sb q sbap)] w fun r w' => r = .returned (.bool (sameDec d xs ls e ys ms)) ∧ Below w.heap.size w w' := by
 have HL := Lib.hid hl; clear hl
 have HX := Lib.hid hx; clear hx
 have HK := Lib.hid hk; clear hk
 have HY := Lib.hid hy; clear hy
 have HSs := Lib.hid h; clear h
 have HSl := Lib.hid h'; clear h'
 have HTs := Lib.hid i; clear i
 have HTl := Lib.hid i'; clear i'
 obtain ⟨R, hR⟩ : ∃ R, sameDec d xs ls e ys ms = R := ⟨_, rfl⟩
 rw [hR]
 simp only [sameDec] at hR
 have HR := Lib.hid hR; clear hR
 have q1 := run_eql_fld; have q2 := run_eql_scan; have q3 := run_eql_ut; have q4 := run_eql_ev
 go_enter Tryz.func21, Tryz.ntmps21
 go_wp2_with fail
 refine (implSameSchema_any _ _ _ _ _ _ xs ys _ (HSs.out.keep bl) (HTs.out.keep bl) HX.out HY.out hn kn hm km).mono ?_
 rintro r w1 ⟨rfl, hb1⟩
 have hz1 := hb1.size
 try simp only [World.size_alloc, World.size_setCell, World.size_drew] at hz1
 have hb1b : Below w.heap.size w w1 := by exact bl
 have kB := box_new0 hb1
 have hBB := box_lt0 hb1
 try simp only [World.size_alloc, World.size_setCell, World.size_drew] at kB
 try simp only [World.size_alloc, World.size_setCell, World.size_drew] at hBB
 have kA := box_new1 hb1
 have hBA := box_lt1 hb1
 try simp only [World.size_alloc, World.size_setCell, World.size_drew] at kA
 try simp only [World.size_alloc, World.size_setCell, World.size_drew] at hBA
 clear hb1; have hb1 := hb1b; clear hb1b
 cases g1 : decide (xs = ys)
 ·skip
  have HB := Lib.hid (show false = R by rw [← HR.out]; simp only [g1, Bool.and_false, Bool.false_and, Bool.true_and, Bool.and_true])
  clear HR
  go_wp2_with fail
  go_ret
  exact ⟨ret_bool HB.out, by exact bl⟩
 ·skip
  cases g2 : (d.p.root == e.p.root)
  ·skip
   have HB := Lib.hid (show false = R by rw [← HR.out]; simp only [g1, g2, Bool.and_false, Bool.false_and, Bool.true_and, Bool.and_true])
   clear HR
   go_wp2_with fail
   go_ret
   exact ⟨ret_bool HB.out, by exact bl⟩
  ·skip
   cases g3 : (d.p.deep == e.p.deep)
   ·skip
    have HB := Lib.hid (show false = R by rw [← HR.out]; simp only [g1, g2, g3, Bool.and_false, Bool.false_and, Bool.true_and, Bool.and_true])
    clear HR
    go_wp2_with fail
    go_ret
    exact ⟨ret_bool HB.out, by exact bl⟩
   ·skip
    cases g4 : (d.p.most == e.p.most)
    ·skip
     have HB := Lib.hid (show false = R by rw [← HR.out]; simp only [g1, g2, g3, g4, Bool.and_false, Bool.false_and, Bool.true_and, Bool.and_true])
     clear HR
     go_wp2_with fail
     go_ret
     exact ⟨ret_bool HB.out, by exact bl⟩
    ·skip
     cases g5 : (d.mode == e.mode)
     ·skip
      have HB := Lib.hid (show false = R by rw [← HR.out]; simp only [g1, g2, g3, g4, g5, Bool.and_false, Bool.false_and, Bool.true_and, Bool.and_true])
      clear HR
      go_wp2_with fail
      go_ret
      exact ⟨ret_bool HB.out, by exact bl⟩
     ·skip
      go_wp2_with fail
      refine (slicesEqualLvl_any _ _ _ _ _ _ ls ms _ (Sl.keep HSl.out bl) (Sl.keep HTl.out bl) HL.out HK.out hm' km').mono ?_
      rintro r w2 ⟨rfl, hb2⟩
      have hz2 := hb2.size
      try simp only [World.size_alloc, World.size_setCell, World.size_drew] at hz2
      have hb2b : Below w1.heap.size w1 w2 := by exact bl
      have kA_ := box_next hb2b hBA kA; clear kA
      have kA := kA_; clear kA_
      have hBA_ := Nat.lt_of_lt_of_le hBA hb2b.size; clear hBA; have hBA := hBA_; clear hBA_
      have kB_ := box_next hb2b hBB kB; clear kB
      have kB := kB_; clear kB_
      have hBB_ := Nat.lt_of_lt_of_le hBB hb2b.size; clear hBB; have hBB := hBB_; clear hBB_
      clear hb2; have hb2 := hb2b; clear hb2b
      cases g6 : decide (ls = ms)
      ·skip
       have HB := Lib.hid (show false = R by rw [← HR.out]; simp only [g1, g2, g3, g4, g5, g6, Bool.and_false, Bool.false_and, Bool.true_and, Bool.and_true])
       clear HR
       go_wp2_with fail
       go_ret
       exact ⟨ret_bool HB.out, by exact bl⟩
      ·skip
       cases g7 : sameS d.bits d.have_ e.bits e.have_
       ·skip
        have HB := Lib.hid (show false = R by rw [← HR.out]; simp only [g1, g2, g3, g4, g5, g6, g7, Bool.and_false, Bool.false_and, Bool.true_and, Bool.and_true])
        clear HR
        go_wp2_with fail
        go_ret
        exact ⟨ret_bool HB.out, by exact bl⟩
       ·skip
        cases g8 : (d.start == e.start)
        ·skip
         have HB := Lib.hid (show false = R by rw [← HR.out]; simp only [g1, g2, g3, g4, g5, g6, g7, g8, Bool.and_false, Bool.false_and, Bool.true_and, Bool.and_true])
         clear HR
         go_wp2_with fail
         go_ret
         exact ⟨ret_bool HB.out, by exact bl⟩
        ·skip
         cases g9 : (d.at_ == e.at_)
         ·skip
          have HB := Lib.hid (show false = R by rw [← HR.out]; simp only [g1, g2, g3, g4, g5, g6, g7, g8, g9, Bool.and_false, Bool.false_and, Bool.true_and, Bool.and_true])
          clear HR
          go_wp2_with fail
          go_ret
          exact ⟨ret_bool HB.out, by exact bl⟩
         ·skip
          cases g10 : sameF ⟨d.field.number, d.field.kind, d.field.rep, d.field.packed, d.field.msg⟩ ⟨e.field.number, e.field.kind, e.field.rep, e.field.packed, e.field.msg⟩
          ·skip
           have HB := Lib.hid (show false = R by rw [← HR.out]; simp only [g1, g2, g3, g4, g5, g6, g7, g8, g9, g10, Bool.and_false, Bool.false_and, Bool.true_and, Bool.and_true])
           clear HR
           go_wp2_with fail
           go_ret
           exact ⟨ret_bool HB.out, by exact bl⟩
          ·skip
           cases g11 : (d.wire == e.wire)
           ·skip
            have HB := Lib.hid (show false = R by rw [← HR.out]; simp only [g1, g2, g3, g4, g5, g6, g7, g8, g9, g10, g11, Bool.and_false, Bool.false_and, Bool.true_and, Bool.and_true])
            clear HR
            go_wp2_with fail
            go_ret
            exact ⟨ret_bool HB.out, by exact bl⟩
           ·skip
            cases g12 : (d.want == e.want)
            ·skip
             have HB := Lib.hid (show false = R by rw [← HR.out]; simp only [g1, g2, g3, g4, g5, g6, g7, g8, g9, g10, g11, g12, Bool.and_false, Bool.false_and, Bool.true_and, Bool.and_true])
             clear HR
             go_wp2_with fail
             go_ret
             exact ⟨ret_bool HB.out, by exact bl⟩
            ·skip
             cases g13 : sameU ⟨d.utf.want, d.utf.low, d.utf.high⟩ ⟨e.utf.want, e.utf.low, e.utf.high⟩
             ·skip
              have HB := Lib.hid (show false = R by rw [← HR.out]; simp only [g1, g2, g3, g4, g5, g6, g7, g8, g9, g10, g11, g12, g13, Bool.and_false, Bool.false_and, Bool.true_and, Bool.and_true])
              clear HR
              go_wp2_with fail
              go_ret
              exact ⟨ret_bool HB.out, by exact bl⟩
             ·skip
              cases g14 : sameEv ⟨d.end_.kind, d.end_.field, d.end_.bits, d.end_.len, d.end_.text, d.end_.code, d.end_.at_⟩ ⟨e.end_.kind, e.end_.field, e.end_.bits, e.end_.len, e.end_.text, e.end_.code, e.end_.at_⟩
              ·skip
               have HB := Lib.hid (show false = R by rw [← HR.out]; simp only [g1, g2, g3, g4, g5, g6, g7, g8, g9, g10, g11, g12, g13, g14, Bool.and_false, Bool.false_and, Bool.true_and, Bool.and_true])
               clear HR
               go_wp2_with fail
               go_ret
               exact ⟨ret_bool HB.out, by exact bl⟩
              ·skip
               have HB := Lib.hid (show true = R by rw [← HR.out]; simp only [g1, g2, g3, g4, g5, g6, g7, g8, g9, g10, g11, g12, g13, g14, Bool.and_false, Bool.false_and, Bool.true_and, Bool.and_true])
               clear HR
               go_wp2_with fail
               go_ret
               exact ⟨ret_bool HB.out, by exact bl⟩
set_option maxRecDepth 100000 in
set_option maxHeartbeats 16000000 in
theorem specSameDec_any (d : Dc) (a : Option Addr) (cap n : Nat) (xs : List Shp) (sa : Option Addr) (scap m : Nat) (ls : List Lvl) (e : Dc) (b : Option Addr) (bap k : Nat) (ys : List Shp) (sb : Option Addr) (sbap q : Nat) (ms : List Lvl) (w : World) (h : Shs w a xs) (h' : Lvls w sa ls) (hx : xs.length = n) (hl : ls.length = m) (hn : n ≤ 1048576) (hm : fldSum xs ≤ 1048576) (hm' : m ≤ 1048576) (i : Shs w b ys) (i' : Lvls w sb ms) (hy : ys.length = k) (hk : ms.length = q) (kn : k ≤ 1048576) (km : fldSum ys ≤ 1048576) (km' : q ≤ 1048576) :
  Calls Tryz.prog 12 #[d.val (.slice a n cap) (.slice sa m scap), e.val (.slice b k bap) (.slice sb q sbap)] w fun r w' => r = .returned (.bool (sameDec d xs ls e ys ms)) ∧ Below w.heap.size w w' := by
 have HL := Lib.hid hl; clear hl
 have HX := Lib.hid hx; clear hx
 have HK := Lib.hid hk; clear hk
 have HY := Lib.hid hy; clear hy
 have HSs := Lib.hid h; clear h
 have HSl := Lib.hid h'; clear h'
 have HTs := Lib.hid i; clear i
 have HTl := Lib.hid i'; clear i'
 obtain ⟨R, hR⟩ : ∃ R, sameDec d xs ls e ys ms = R := ⟨_, rfl⟩
 rw [hR]
 simp only [sameDec] at hR
 have HR := Lib.hid hR; clear hR
 have q1 := run_eql_fld; have q2 := run_eql_scan; have q3 := run_eql_ut; have q4 := run_eql_ev
 go_enter Tryz.func12, Tryz.ntmps12
 go_wp2_with fail
 refine (specSameSchema_any _ _ _ _ _ _ xs ys _ (HSs.out.keep bl) (HTs.out.keep bl) HX.out HY.out hn kn hm km).mono ?_
 rintro r w1 ⟨rfl, hb1⟩
 have hz1 := hb1.size
 try simp only [World.size_alloc, World.size_setCell, World.size_drew] at hz1
 have hb1b : Below w.heap.size w w1 := by exact bl
 have kB := box_new0 hb1
 have hBB := box_lt0 hb1
 try simp only [World.size_alloc, World.size_setCell, World.size_drew] at kB
 try simp only [World.size_alloc, World.size_setCell, World.size_drew] at hBB
 have kA := box_new1 hb1
 have hBA := box_lt1 hb1
 try simp only [World.size_alloc, World.size_setCell, World.size_drew] at kA
 try simp only [World.size_alloc, World.size_setCell, World.size_drew] at hBA
 clear hb1; have hb1 := hb1b; clear hb1b
 cases g1 : decide (xs = ys)
 ·skip
  have HB := Lib.hid (show false = R by rw [← HR.out]; simp only [g1, Bool.and_false, Bool.false_and, Bool.true_and, Bool.and_true])
  clear HR
  go_wp2_with fail
  go_ret
  exact ⟨ret_bool HB.out, by exact bl⟩
 ·skip
  cases g2 : (d.p.root == e.p.root)
  ·skip
   have n2 : (d.p.root != e.p.root) = true := by simp only [bne, g2]; rfl
   have HB := Lib.hid (show false = R by rw [← HR.out]; simp only [g1, g2, Bool.and_false, Bool.false_and, Bool.true_and, Bool.and_true])
   clear HR
   go_wp2_with fail
   go_ret
   exact ⟨ret_bool HB.out, by exact bl⟩
  ·skip
   have n2 : (d.p.root != e.p.root) = false := by simp only [bne, g2]; rfl
   cases g3 : (d.p.deep == e.p.deep)
   ·skip
    have n3 : (d.p.deep != e.p.deep) = true := by simp only [bne, g3]; rfl
    have HB := Lib.hid (show false = R by rw [← HR.out]; simp only [g1, g2, g3, Bool.and_false, Bool.false_and, Bool.true_and, Bool.and_true])
    clear HR
    go_wp2_with fail
    go_ret
    exact ⟨ret_bool HB.out, by exact bl⟩
   ·skip
    have n3 : (d.p.deep != e.p.deep) = false := by simp only [bne, g3]; rfl
    cases g4 : (d.p.most == e.p.most)
    ·skip
     have n4 : (d.p.most != e.p.most) = true := by simp only [bne, g4]; rfl
     have HB := Lib.hid (show false = R by rw [← HR.out]; simp only [g1, g2, g3, g4, Bool.and_false, Bool.false_and, Bool.true_and, Bool.and_true])
     clear HR
     go_wp2_with fail
     go_ret
     exact ⟨ret_bool HB.out, by exact bl⟩
    ·skip
     have n4 : (d.p.most != e.p.most) = false := by simp only [bne, g4]; rfl
     by_cases hmq : m = q
     ·skip
      subst hmq
      go_wp2
      go_loopw [5] (fun i wr => ∃ j : Nat, j ≤ m ∧ i = .int .i64 j ∧ Hid (ls.take j = ms.take j) ∧ Below w.heap.size w wr ∧ w.heap.size + 1 < wr.heap.size ∧ (∀ i : Nat, wr.cell? ⟨w.heap.size, i, none⟩ = ((Dc.cl d (.slice a n cap) (.slice sa m scap)).toArray : Array Value)[i]?) ∧ (∀ i : Nat, wr.cell? ⟨w.heap.size + 1, i, none⟩ = ((Dc.cl e (.slice b k bap) (.slice sb m sbap)).toArray : Array Value)[i]?)) (fun i _ => m - (intOf i).toNat)
      case atStart => exact ⟨0, Nat.zero_le _, rfl, Lib.hid rfl, by exact bl, by omega, kA, kB⟩
      case round =>
       obtain ⟨j, hj, rfl, HT, hb, hBB2, kA2, kB2⟩ := hrel
       clear kA kB; have kA := kA2; have kB := kB2; clear kA2 kB2
       have hz := hb.size
       have hB0 : w.heap.size < wr.heap.size := by omega
       by_cases hlt : j < m
       ·obtain ⟨x, hx, _⟩ := at_lt (xs := ls) (k := j) (by rw [HL.out]; exact hlt)
        obtain ⟨y, hy, _⟩ := at_lt (xs := ms) (k := j) (by rw [HK.out]; exact hlt)
        have HE := Lib.hid hx
        have HF := Lib.hid hy
        obtain ⟨b1, off1, rfl, hlb, c0, c1⟩ := Lvls.at (Sl.keep HSl.out (show Below w.heap.size w wr by exact bl)) hx
        obtain ⟨b2, off2, rfl, hlb2, d0, d1⟩ := Lvls.at (Sl.keep HTl.out (show Below w.heap.size w wr by exact bl)) hy
        clear hx hy
        by_cases hef : x = y
        ·have hd : sameLv x.msg x.left y.msg y.left = true := by rw [sameLv_eq]; simp [hef]
         have HD := Lib.hid hef; clear hef
         have HT2 := Lib.hid (take_same HT.out HE.out (by rw [HD.out]; exact HF.out))
         have hne := run_neq_lvl
         go_wp2_with fail
         (refine wp_region_ext (by kernel_rfl) (by kernel_rfl) ?_; (repeat (go_big_quiet_step (fail))); refine wpQuiet_nil ?_; intro w9 hb9; obtain ⟨hc9, hf9⟩ := bcell hb9; have hz9 := hb9.size; (try simp only [World.size_alloc, World.size_setCell, World.size_drew] at hz9))
         go_wp2
         go_roundw
         case rel => exact ⟨j + 1, by omega, by go_num, HT2, by exact bl, by omega, box_next hb9 hB0 kA, box_next hb9 hBB2 kB⟩
         case measure => simp [intOf]; omega
        ·have hd : sameLv x.msg x.left y.msg y.left = false := by rw [sameLv_eq]; simp [hef]
         have g6 := ne_of_at HE.out HF.out hef
         clear hef
         have hne := run_neq_lvl
         have HB := Lib.hid (show false = R by rw [← HR.out]; simp only [g1, g2, g3, g4, g6, Bool.and_false, Bool.false_and, Bool.true_and, Bool.and_true])
         clear HR
         go_wp2_with fail
         (refine wp_region_ext (by kernel_rfl) (by kernel_rfl) ?_; (repeat (go_big_quiet_step (fail))); refine wpQuiet_nil ?_; intro w9 hb9; obtain ⟨hc9, hf9⟩ := bcell hb9; have hz9 := hb9.size; (try simp only [World.size_alloc, World.size_setCell, World.size_drew] at hz9))
         go_wp2
         go_ret
         exact ⟨ret_bool HB.out, by exact bl⟩
       ·have g6 := take_end HT.out (by rw [HL.out]; omega) (by rw [HK.out]; omega)
        cases g5 : (d.mode == e.mode)
        ·skip
         have HB := Lib.hid (show false = R by rw [← HR.out]; simp only [g1, g2, g3, g4, g6, g5, Bool.and_false, Bool.false_and, Bool.true_and, Bool.and_true])
         clear HR
         go_wp2_with fail
         go_ret
         exact ⟨ret_bool HB.out, by exact bl⟩
        ·skip
         cases g7 : sameS d.bits d.have_ e.bits e.have_
         ·skip
          have HB := Lib.hid (show false = R by rw [← HR.out]; simp only [g1, g2, g3, g4, g6, g5, g7, Bool.and_false, Bool.false_and, Bool.true_and, Bool.and_true])
          clear HR
          go_wp2_with fail
          go_ret
          exact ⟨ret_bool HB.out, by exact bl⟩
         ·skip
          cases g8 : (d.start == e.start)
          ·skip
           have HB := Lib.hid (show false = R by rw [← HR.out]; simp only [g1, g2, g3, g4, g6, g5, g7, g8, Bool.and_false, Bool.false_and, Bool.true_and, Bool.and_true])
           clear HR
           go_wp2_with fail
           go_ret
           exact ⟨ret_bool HB.out, by exact bl⟩
          ·skip
           cases g9 : (d.at_ == e.at_)
           ·skip
            have HB := Lib.hid (show false = R by rw [← HR.out]; simp only [g1, g2, g3, g4, g6, g5, g7, g8, g9, Bool.and_false, Bool.false_and, Bool.true_and, Bool.and_true])
            clear HR
            go_wp2_with fail
            go_ret
            exact ⟨ret_bool HB.out, by exact bl⟩
           ·skip
            cases g10 : sameF ⟨d.field.number, d.field.kind, d.field.rep, d.field.packed, d.field.msg⟩ ⟨e.field.number, e.field.kind, e.field.rep, e.field.packed, e.field.msg⟩
            ·skip
             have HB := Lib.hid (show false = R by rw [← HR.out]; simp only [g1, g2, g3, g4, g6, g5, g7, g8, g9, g10, Bool.and_false, Bool.false_and, Bool.true_and, Bool.and_true])
             clear HR
             go_wp2_with fail
             go_ret
             exact ⟨ret_bool HB.out, by exact bl⟩
            ·skip
             cases g11 : (d.wire == e.wire)
             ·skip
              have HB := Lib.hid (show false = R by rw [← HR.out]; simp only [g1, g2, g3, g4, g6, g5, g7, g8, g9, g10, g11, Bool.and_false, Bool.false_and, Bool.true_and, Bool.and_true])
              clear HR
              go_wp2_with fail
              go_ret
              exact ⟨ret_bool HB.out, by exact bl⟩
             ·skip
              cases g12 : (d.want == e.want)
              ·skip
               have HB := Lib.hid (show false = R by rw [← HR.out]; simp only [g1, g2, g3, g4, g6, g5, g7, g8, g9, g10, g11, g12, Bool.and_false, Bool.false_and, Bool.true_and, Bool.and_true])
               clear HR
               go_wp2_with fail
               go_ret
               exact ⟨ret_bool HB.out, by exact bl⟩
              ·skip
               cases g13 : sameU ⟨d.utf.want, d.utf.low, d.utf.high⟩ ⟨e.utf.want, e.utf.low, e.utf.high⟩
               ·skip
                have HB := Lib.hid (show false = R by rw [← HR.out]; simp only [g1, g2, g3, g4, g6, g5, g7, g8, g9, g10, g11, g12, g13, Bool.and_false, Bool.false_and, Bool.true_and, Bool.and_true])
                clear HR
                go_wp2_with fail
                go_ret
                exact ⟨ret_bool HB.out, by exact bl⟩
               ·skip
                cases g14 : sameEv ⟨d.end_.kind, d.end_.field, d.end_.bits, d.end_.len, d.end_.text, d.end_.code, d.end_.at_⟩ ⟨e.end_.kind, e.end_.field, e.end_.bits, e.end_.len, e.end_.text, e.end_.code, e.end_.at_⟩
                ·skip
                 have HB := Lib.hid (show false = R by rw [← HR.out]; simp only [g1, g2, g3, g4, g6, g5, g7, g8, g9, g10, g11, g12, g13, g14, Bool.and_false, Bool.false_and, Bool.true_and, Bool.and_true])
                 clear HR
                 go_wp2_with fail
                 go_ret
                 exact ⟨ret_bool HB.out, by exact bl⟩
                ·skip
                 have HB := Lib.hid (show true = R by rw [← HR.out]; simp only [g1, g2, g3, g4, g5, g6, g7, g8, g9, g10, g11, g12, g13, g14, Bool.and_false, Bool.false_and, Bool.true_and, Bool.and_true])
                 clear HR
                 go_wp2_with fail
                 go_ret
                 exact ⟨ret_bool HB.out, by exact bl⟩
     ·have hl' : ((m : Int) != (q : Int)) = true := by simp; omega
      have g6 : decide (ls = ms) = false := by simp only [decide_eq_false_iff_not]; intro hh; subst hh; exact hmq (HL.out.symm.trans HK.out)
      have HB := Lib.hid (show false = R by rw [← HR.out]; simp only [g1, g2, g3, g4, g6, Bool.and_false, Bool.false_and, Bool.true_and, Bool.and_true])
      clear HR
      go_wp2_with fail
      go_ret
      exact ⟨ret_bool HB.out, by exact bl⟩
set_option maxHeartbeats 2000000 in
theorem specSameEvents_any (a a' : Option Addr) (cap cap' n n' : Nat) (xs ys : List Ev) (w : World) (h : Evs w a xs) (h' : Evs w a' ys) (hx : xs.length = n) (hy : ys.length = n') (hn : n ≤ 1048576) (hn' : n' ≤ 1048576) :
  Calls Tryz.prog 13 #[.slice a n cap, .slice a' n' cap'] w fun r w' => r = .returned (.bool (decide (xs = ys))) ∧ Below w.heap.size w w' := by
 have HX := Lib.hid hx; clear hx
 have HY := Lib.hid hy; clear hy
 by_cases hl : n = n'
 ·subst hl
  go_enter Tryz.func13, Tryz.ntmps13
  go_wp2
  go_loopw [4, 5] (fun t i wr => ∃ k : Nat, k ≤ n ∧ i = .int .i64 k ∧ t = .bool false ∧ Hid (xs.take k = ys.take k) ∧ Below w.heap.size w wr) (fun _ i _ => n - (intOf i).toNat)
  case atStart => exact ⟨0, Nat.zero_le _, rfl, rfl, Lib.hid rfl, Below.refl _ _⟩
  case round =>
   obtain ⟨k, hk, rfl, rfl, HT, hb⟩ := hrel
   have hz := hb.size
   by_cases hlt : k < n
   ·obtain ⟨e, he, _⟩ := at_lt (xs := xs) (k := k) (by rw [HX.out]; exact hlt)
    obtain ⟨f, hf, _⟩ := at_lt (xs := ys) (k := k) (by rw [HY.out]; exact hlt)
    have HE := Lib.hid he
    have HF := Lib.hid hf
    obtain ⟨b, off, rfl, hlb, c0, c1, c2, c3, c4, c5, c6⟩ := Evs.at (h.below hb (Nat.le_refl _)) he
    obtain ⟨b', off', rfl, hlb', d0, d1, d2, d3, d4, d5, d6⟩ := Evs.at (h'.below hb (Nat.le_refl _)) hf
    clear he hf
    by_cases hef : e = f
    ·have hd : sameEv e f = true := by simp [sameEv, hef]
     have HD := Lib.hid hef; clear hef
     have HT2 := Lib.hid (show xs.take (k + 1) = ys.take (k + 1) by rw [List.take_add_one, List.take_add_one, HT.out, HE.out, HF.out, HD.out])
     have hne := run_neq_ev
     go_wp2_with fail
     (refine wp_region_ext (by kernel_rfl) (by kernel_rfl) ?_; (repeat (go_big_quiet_step (fail))); refine wpQuiet_nil ?_; intro w1 hb1; obtain ⟨hc1, hf1⟩ := bcell hb1; have hz1 := hb1.size; (try simp only [World.size_alloc, World.size_setCell, World.size_drew] at hz1))
     go_wp2
     go_roundw
     case rel => exact ⟨k + 1, by omega, by go_num, rfl, HT2, by exact bl⟩
     case measure => simp [intOf]; omega
    ·have hd : sameEv e f = false := by simp [sameEv, hef]
     have HS := Lib.hid (show decide (xs = ys) = false by
      simp only [decide_eq_false_iff_not]; intro hxy; subst hxy; apply hef; have h1 := HE.out; rw [HF.out] at h1; simpa using h1.symm)
     clear hef
     have hne := run_neq_ev
     go_wp2_with fail
     (refine wp_region_ext (by kernel_rfl) (by kernel_rfl) ?_; (repeat (go_big_quiet_step (fail))); refine wpQuiet_nil ?_; intro w1 hb1; obtain ⟨hc1, hf1⟩ := bcell hb1; have hz1 := hb1.size; (try simp only [World.size_alloc, World.size_setCell, World.size_drew] at hz1))
     go_wp2
     go_ret
     exact ⟨ret_bool HS.out.symm, by exact bl⟩
   ·have HS := Lib.hid (show decide (xs = ys) = true by
     have := HT.out; rw [List.take_of_length_le (by rw [HX.out]; omega), List.take_of_length_le (by rw [HY.out]; omega)] at this; simp [this])
    go_wp2
    go_ret
    exact ⟨ret_bool HS.out.symm, hb⟩
 ·have HS := Lib.hid (show decide (xs = ys) = false by
   simp only [decide_eq_false_iff_not]; intro hxy; subst hxy; exact hl (HX.out.symm.trans HY.out))
  have hl' : ((n : Int) != (n' : Int)) = true := by simp; omega
  go_enter Tryz.func13, Tryz.ntmps13
  go_wp2
  go_ret
  exact ⟨ret_bool HS.out.symm, Below.refl _ _⟩
def DrawnDB (w : World) (r : Ending) (w' : World) : Prop :=
 ∃ (d : Dc) (xs : List Shp) (ls : List Lvl) (a : Option Addr) (cap : Nat) (sa : Option Addr) (scap : Nat), r = .returned (d.val (.slice a xs.length cap) (.slice sa ls.length scap)) ∧ ShsC w' a xs ∧ Lvls w' sa ls ∧ (sa = none → scap = 0) ∧ SchB xs ∧ ls.length ≤ 9 ∧ Below w.heap.size w w'
structure Hd (w : World) (B : Nat) (d : Dc) (a : Option Addr) (cap : Nat) (xs : List Shp) (sa : Option Addr) (scap : Nat) (ls : List Lvl) : Prop where
 box : w.heap[B]? = some (.cells (Dc.cl d (.slice a xs.length cap) (.slice sa ls.length scap)).toArray 40 (0, 0))
 sh : ShsC w a xs
 lv : Lvls w sa ls
 nil : sa = none → scap = 0
theorem Hd.keep {w w' : World} {B : Nat} {d : Dc} {a : Option Addr} {cap : Nat} {xs : List Shp} {sa : Option Addr} {scap : Nat} {ls : List Lvl} (h : Hd w B d a cap xs sa scap ls) (hb : Below w.heap.size w w') : Hd w' B d a cap xs sa scap ls :=
 ⟨(hb.block _ (box_lt h.box)).trans h.box, h.sh.keep hb, Sl.keep h.lv hb, h.nil⟩
theorem Hd.new {w : World} {d : Dc} {a : Option Addr} {cap : Nat} {xs : List Shp} {sa : Option Addr} {scap : Nat} {ls : List Lvl} (h1 : ShsC w a xs) (h2 : Lvls w sa ls) (h3 : sa = none → scap = 0) :
  Hd ((w.alloc (.cells dz0.toArray 40)).setRow w.heap.size (Dc.cl d (.slice a xs.length cap) (.slice sa ls.length scap)).toArray) w.heap.size d a cap xs sa scap ls := by
 have hb : Below w.heap.size w ((w.alloc (.cells dz0.toArray 40)).setRow w.heap.size (Dc.cl d (.slice a xs.length cap) (.slice sa ls.length scap)).toArray) := by exact bl
 exact ⟨hset_row (cs := dz0.toArray) (hset_new rfl), h1.keep hb, Sl.keep h2 hb, h3⟩
theorem sameDec_self (d : Dc) (xs : List Shp) (ls : List Lvl) : sameDec d xs ls d xs ls = true := by simp [sameDec, sameS, sameF, sameU, sameEv]
set_option maxRecDepth 100000 in
set_option maxHeartbeats 4000000 in
theorem drawSettle_any (a : Option Addr) (cap n : Nat) (w : World) (h : Code w a n) (hn : n ≤ 1048576) : Calls Tryz.prog 18 #[.slice a n cap] w (DrawnDB w) := by
 go_enter Tryz.func18, Tryz.ntmps18
 go_wp2_with fail
 refine (l1New_any a cap n _ (h.keep bl) hn).mono ?_
 rintro r w1 ⟨B, rfl, hB, hc, hb1⟩
 simp only [World.size_alloc] at hB
 go_wp2_with fail
 refine (l15Draw_any B w1 hc).mono ?_
 rintro r w2 ⟨d, xs, ls, a2, cap2, rs, sa, scap, rfl, ho, hl, hs, h8, hu⟩
 have hb2 : Below (w.heap.size + 1) w1 w2 := hu.oth.below hB hc.lt
 have hbw : Below w.heap.size w w2 := ((Below.refl _ _).alloc (Nat.le_refl _) _).trans ((hb1.mono (by simp)).trans (hb2.mono (by omega)))
 have hz1 := hb1.size
 simp only [World.size_alloc] at hz1
 have hR2 := Lib.hid ((hb2.block w.heap.size (by omega)).trans ((hb1.block w.heap.size (by simp)).trans (hset_new (o := .cells dz0.toArray 40) rfl)))
 have HO := Lib.hid ho; have HL := Lib.hid hl; have HS := Lib.hid hs; clear ho hl hs hu hb2
 go_wp2_with (first | ((with_reducible show wpList _ _ _ (⟨_, Op.store 40 _ _, _, _, _, _⟩ :: _) _ _); refine wsq w.heap.size (Dc.cl d (.slice a2 xs.length cap2) (.slice sa ls.length scap)).toArray hR2.out (one_Dec _ _ _ _ _ _ _) ?_))
 have hnil := own_nilc2 HL.out
 refine bodyPost_ret (results_cell Tryz.results18 rfl (run_loadVar_mid _ w.heap.size 0 40 (Dc.cl d (.slice a2 xs.length cap2) (.slice sa ls.length scap)) _ (range_of_box (t := 40) (hset_row hR2.out)) Tryz.underlying40 rfl size_Dec)) rfl ⟨d, xs, ls, a2, cap2, sa, scap, rfl, (HO.out.setRow (by omega) _).shsC, lvls_of_own (owns_setRow HL.out (by omega) _) rfl, fun e => (hnil e).2, HS.out, h8, below_setRow hbw (Nat.le_refl _) _⟩
set_option maxRecDepth 100000 in
set_option maxHeartbeats 1000000 in
theorem specSettle_any (d : Dc) (a : Option Addr) (cap : Nat) (xs : List Shp) (sa : Option Addr) (scap : Nat) (ls : List Lvl) (w : World) (h : ShsC w a xs) (h' : Lvls w sa ls) (hn : xs.length ≤ 1048576) (hm : fldSum xs ≤ 1048576) (hm' : ls.length ≤ 1048576) (hnil : sa = none → scap = 0) :
  Calls Tryz.prog 20 #[d.val (.slice a xs.length cap) (.slice sa ls.length scap)] w (FreshDE w 77 34 67 38 xs (settleO d xs ls)) := by
 have HSs := Lib.hid h; clear h
 have HSl := Lib.hid h'; clear h'
 go_enter Tryz.func20, Tryz.ntmps20
 go_wp2_with (first | (refine wlm w.heap.size (Dc.cl d (.slice a xs.length cap) (.slice sa ls.length scap)) (range_of_box (t := 40) (hset_alloc (hset_new rfl))) ?_))
 refine (l15Ok_any d a cap _ xs sa scap _ ls _ (HSs.out.shs.keep bl) (Sl.keep HSl.out bl) rfl rfl hn hm hm').mono ?_
 rintro r w1 ⟨rfl, hb1⟩
 have hz1 := hb1.size
 simp only [World.size_alloc] at hz1
 have hA_ : w1.heap[w.heap.size]? = some (.cells (Dc.cl d (.slice a xs.length cap) (.slice sa ls.length scap)).toArray 40 (0, 0)) := (hb1.block _ (by simp; omega)).trans (hset_alloc (hset_new rfl))
 have hR_ : w1.heap[w.heap.size + 1]? = some (.cells dz0.toArray 40 (0, 0)) := (hb1.block _ (by simp)).trans (hset_new (by simp))
 have hb1b : Below w.heap.size w w1 := by exact bl
 have HA := Lib.hid hA_; clear hA_
 have HR := Lib.hid hR_; clear hR_ hb1
 cases hok : lvOk d xs ls
 ·have HO : Hid (settleO d xs ls = (d, ls, [])) := Lib.hid (by simp only [settleO, hok]; rfl)
  go_wp2_with (first | (refine wlm w.heap.size (Dc.cl d (.slice a xs.length cap) (.slice sa ls.length scap)) (range_of_box (t := 40) HA.out) ?_))
  refine (l14Copy_any d a cap xs sa scap ls _ (HSs.out.keep bl) (Sl.keep HSl.out bl) hn hm hm' hnil).mono ?_
  rintro r w2 ⟨a2, cap2, rs2, sa2, scap2, rfl, ho2, hp2, hb2⟩
  have hz2 := hb2.size
  have HR2 := Lib.hid ((hb2.block _ (by omega)).trans HR.out); clear HR
  have P1 := Lib.hid ho2; clear ho2
  have P2 := Lib.hid hp2; clear hp2
  go_wp2_with (first | (refine wsq (w.heap.size + 1) (Dc.cl d (.slice a2 xs.length cap2) (.slice sa2 ls.length scap2)).toArray (hset_alloc HR2.out) (one_Dec _ _ _ _ _ _ _) ?_))
  rw [HO.out]
  refine finDE (w := w) (R := w.heap.size + 1) (base := w1.heap.size) (e := d) (ms := ls) (es := ([] : List Ev)) (rs := rs2) (a := a2) (cap := cap2) (sa := sa2) (scap := scap2) (ea := some ⟨w2.heap.size, 0, none⟩) (ecap := 0) Tryz.results20 ?_ ?_ ?_ ?_ ?_ ?_ ?_ (by omega)
  ·rfl
  ·rfl
  ·exact hset_row (cs := dz0.toArray) (hset_alloc HR2.out)
  ·exact OwnShs.setRow (P1.out.alloc _) (by omega) _
  ·exact owns_setRow (P2.out.alloc _) (by omega) _
  ·exact owns_setRow (owns_le (own_built w2 38 7) hz2) (by omega) _
  ·exact bl
 ·have HO : Hid (settleO d xs ls = settle d ls) := Lib.hid (by simp only [settleO, hok]; rfl)
  have h8 := lvOk_le hok
  go_wp2_with (first | (refine wlm w.heap.size (Dc.cl d (.slice a xs.length cap) (.slice sa ls.length scap)) (range_of_box (t := 40) HA.out) ?_))
  refine (l14Copy_any d a cap xs sa scap ls _ (HSs.out.keep bl) (Sl.keep HSl.out bl) hn hm hm' hnil).mono ?_
  rintro r w2 ⟨a2, cap2, rs2, sa2, scap2, rfl, ho2, hp2, hb2⟩
  have hz2 := hb2.size
  have HR2 := Lib.hid ((hb2.block _ (by omega)).trans HR.out); clear HR
  have P1 := Lib.hid ho2; clear ho2
  have P2 := Lib.hid hp2; clear hp2
  have hb2b : Below w.heap.size w w2 := by exact bl
  clear hb2
  go_wp2_with fail
  refine (l15Settle_any d a2 cap2 _ sa2 scap2 ls w1.heap.size w2 P2.out hz2 h8).mono ?_
  rintro r w3 ⟨sa3, scap3, ea, ecap, rfl, hp3, he3, hb3⟩
  obtain ⟨⟨e, ms, es⟩, hO2⟩ : ∃ O, O = settle d ls := ⟨_, rfl⟩
  rw [← hO2] at hp3 he3 ⊢
  have hz3 := hb3.size
  have HR3 := Lib.hid ((hb3.block _ (by omega)).trans HR2.out); clear HR2
  have P3 := Lib.hid hp3; clear hp3
  have P4 := Lib.hid he3; clear he3
  simp only
  go_wp2_with (first | (refine wsq (w.heap.size + 1) (Dc.cl e (.slice a2 xs.length cap2) (.slice sa3 ms.length scap3)).toArray HR3.out (one_Dec _ _ _ _ _ _ _) ?_))
  rw [HO.out, ← hO2]
  refine finDE (w := w) (R := w.heap.size + 1) (base := w1.heap.size) (e := e) (ms := ms) (es := es) (rs := rs2) (a := a2) (cap := cap2) (sa := sa3) (scap := scap3) (ea := ea) (ecap := ecap) Tryz.results20 ?_ ?_ ?_ ?_ ?_ ?_ ?_ (by omega)
  ·rfl
  ·rfl
  ·exact hset_row (cs := dz0.toArray) HR3.out
  ·exact OwnShs.setRow (P1.out.chain hb3 (Nat.le_refl _)) (by omega) _
  ·exact owns_setRow P3.out (by omega) _
  ·exact owns_setRow (owns_le P4.out hz2) (by omega) _
  ·exact bl
end Go.Proofs.YtabdjimjelfbfaaGreat

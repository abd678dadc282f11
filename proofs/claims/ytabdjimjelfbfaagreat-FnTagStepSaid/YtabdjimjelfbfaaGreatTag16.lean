/- Texts that FnTag leans on, part 16. (Put together by wip/tools/bundle.py.) -/
import Derived.Deep.CutBlock
import Derived.Test.YtabdjimjelfbfaaGreatTag1
import Derived.Test.YtabdjimjelfbfaaGreatTag2
import Derived.Test.YtabdjimjelfbfaaGreatTag3
import Derived.Test.YtabdjimjelfbfaaGreatTag4
import Derived.Test.YtabdjimjelfbfaaGreatTag5
import Derived.Test.YtabdjimjelfbfaaGreatTag6
import Derived.Test.YtabdjimjelfbfaaGreatTag7
import Derived.Test.YtabdjimjelfbfaaGreatTag8
import Derived.Test.YtabdjimjelfbfaaGreatTag9
import Derived.Test.YtabdjimjelfbfaaGreatTag10
import Derived.Test.YtabdjimjelfbfaaGreatTag11
import Derived.Test.YtabdjimjelfbfaaGreatTag12
import Derived.Test.YtabdjimjelfbfaaGreatTag13
import Derived.Test.YtabdjimjelfbfaaGreatTag14
import Derived.Test.YtabdjimjelfbfaaGreatTag15
namespace Go.Proofs.YtabdjimjelfbfaaGreat
set_option linter.unusedSimpArgs false
set_option linter.unusedVariables false
open Go.ChangeShapes Go.WideShapes Go.ChangeAt Go.RowKit Go.BigFrame
theorem wu64_lim {u : Int} (h0 : 0 ≤ u) (h1 : u ≤ 18446744073709551615) : (Lit.int .u64 u).wf = true := by
 simp [Lit.wf, IntKind.min, IntKind.max, IntKind.signed, IntKind.bits]; omega
structure TgI (wa W : World) (B R D : Nat) (d : Dc) (xs : List Shp) (ls : List Lvl) (a : Option Addr) (cap : Nat) (rs : List ShR) (sa : Option Addr) (scap : Nat) : Prop where
 box : W.heap[D]? = some (.cells (Dc.cl d (.slice a xs.length cap) (.slice sa ls.length scap)).toArray 40 (0, 0))
 res : W.heap[R]? = some (.cells dz0.toArray 40 (0, 0))
 sh : OwnShs W wa.heap.size 77 34 (.slice a xs.length cap) xs.length rs xs
 lv : W.ownsRow wa.heap.size 67 2 (.slice sa ls.length scap) ls.length (ls.flatMap Lvl.cs)
 up : Up B wa W
 hD : wa.heap.size ≤ D
 hR : R < B
 hB : B < wa.heap.size
section
variable {wa W w' : World} {B R D : Nat} {d : Dc} {xs : List Shp} {ls : List Lvl} {a : Option Addr} {cap : Nat} {rs : List ShR} {sa : Option Addr} {scap : Nat}
theorem TgI.step (h : TgI wa W B R D d xs ls a cap rs sa scap) (hc : Cur w' B) (ho : Oth B W w') : TgI wa w' B R D d xs ls a cap rs sa scap :=
 ⟨(ho.block (box_lt h.box) (by have := h.hD; have := h.hB; omega)).trans h.box, (ho.block (box_lt h.res) (by have := h.hR; omega)).trans h.res, h.sh.oth ho h.hB, owns_oth h.lv ho h.hB, h.up.step hc ho, h.hD, h.hR, h.hB⟩
theorem TgI.keep (h : TgI wa W B R D d xs ls a cap rs sa scap) (hb : Below W.heap.size W w') : TgI wa w' B R D d xs ls a cap rs sa scap :=
 ⟨(hb.block _ (box_lt h.box)).trans h.box, (hb.block _ (box_lt h.res)).trans h.res, h.sh.chain hb (Nat.le_refl _), owns_below h.lv hb (Nat.le_refl _), h.up.below h.hB hb h.up.oth.size, h.hD, h.hR, h.hB⟩
theorem TgI.done {w : World} {F : Func} {p q : Nat} (hF : F.results = #[.cell p 40, .tmp q]) {tm : Array Value} {u : Int} (h : TgI wa W B w.heap.size D d xs ls a cap rs sa scap) (hbw : Below w.heap.size w wa) (hs : SchB xs) (h9 : ls.length ≤ 9) (hu : (Lit.int .u64 u).wf = true) (t1 : tm.getD p undef = .pointer (some ⟨w.heap.size, 0, none⟩)) (t2 : tm.getD q undef = .int .u64 u) :
  bodyPost Tryz.prog F (DrawnDU w) .ret ⟨tm, []⟩ (W.setRow w.heap.size (Dc.cl d (.slice a xs.length cap) (.slice sa ls.length scap)).toArray) := by
 have hl := h.hR; have hl2 := h.hB
 have hnil := own_nilc2 h.lv
 have hb : Below w.heap.size w W := hbw.trans (h.up.oth.below (by omega) h.hB)
 exact bodyPost_ret (results_cell_tmp hF t1 t2 (run_loadVar_mid _ w.heap.size 0 40 (Dc.cl d (.slice a xs.length cap) (.slice sa ls.length scap)) _ (range_of_box (t := 40) (hset_row h.res)) Tryz.underlying40 rfl size_Dec)) rfl ⟨d, xs, ls, a, cap, sa, scap, u, rfl, (h.sh.setRow (by omega) _).shsC, lvls_of_own (owns_setRow h.lv (by omega) _) rfl, fun e => (hnil e).2, hs, h9, hu, below_setRow hb (Nat.le_refl _) _⟩
end
set_option maxRecDepth 100000 in
set_option maxHeartbeats 8000000 in
theorem drawTag_any (a : Option Addr) (cap n : Nat) (w : World) (h : Code w a n) (hn : n ≤ 1048576) : Calls Tryz.prog 22 #[.slice a n cap] w (DrawnDU w) := by
 go_enter Tryz.func22, Tryz.ntmps22
 go_wp2_with fail
 refine (l1New_any a cap n _ (h.keep bl) hn).mono ?_
 rintro r w1 ⟨B, rfl, hB, hc, hb1⟩
 simp only [World.size_alloc] at hB
 have hcl := hc.lt
 have hz1 := hb1.size
 simp only [World.size_alloc] at hz1
 have hR1 := Lib.hid ((hb1.block w.heap.size (by simp)).trans (hset_new (o := .cells dz0.toArray 40) rfl))
 have hbw : Below w.heap.size w w1 := ((Below.refl _ _).alloc (Nat.le_refl _) _).trans (hb1.mono (by simp))
 clear hb1
 go_wp2_with fail
 refine (l15Draw_any B w1 hc).mono ?_
 rintro r w2 ⟨d, xs, ls, a2, cap2, rs, sa, scap, rfl, ho, hl, hs, h9, hu⟩
 have hz2 := hu.oth.size
 have hn7 := hs.n
 have hms := hs.sum
 have HS := Lib.hid hs; clear hs
 have HO := Lib.hid ho; have HL := Lib.hid hl; have HU := Lib.hid hu; clear ho hl hu
 go_upto_region 3 with (first | ((with_reducible show wpList _ _ _ (⟨_, Op.store 40 _ _, _, _, _, _⟩ :: _) _ _); refine wsq w2.heap.size (Dc.cl d (.slice a2 xs.length cap2) (.slice sa ls.length scap)).toArray (hset_new rfl) (one_Dec _ _ _ _ _ _ _) ?_))
 have hb3 : Below w2.heap.size w2 ((w2.alloc (.cells dz0.toArray 40)).setRow w2.heap.size (Dc.cl d (.slice a2 xs.length cap2) (.slice sa ls.length scap)).toArray) := by exact bl
 have HM := Lib.hid (show TgI w1 ((w2.alloc (.cells dz0.toArray 40)).setRow w2.heap.size (Dc.cl d (.slice a2 xs.length cap2) (.slice sa ls.length scap)).toArray) B w.heap.size w2.heap.size d xs ls a2 cap2 rs sa scap from ⟨hset_row (cs := dz0.toArray) (hset_new rfl), (hb3.block _ (by omega)).trans ((HU.out.oth.block (by omega) (by omega)).trans hR1.out), HO.out.chain hb3 (Nat.le_refl _), owns_below HL.out hb3 (Nat.le_refl _), HU.out.below hcl hb3 HU.out.oth.size, hz2, by omega, hcl⟩)
 obtain ⟨w3, hw_⟩ : ∃ q, ((w2.alloc (.cells dz0.toArray 40)).setRow w2.heap.size (Dc.cl d (.slice a2 xs.length cap2) (.slice sa ls.length scap)).toArray) = q := ⟨_, rfl⟩
 rw [hw_] at HM ⊢
 clear hw_ hb3 HO HL HU hR1
 obtain ⟨D, hD_⟩ : ∃ q, w2.heap.size = q := ⟨_, rfl⟩
 rw [hD_] at HM
 try simp only [hD_]
 clear hD_ hz2
 try simp only [Act.put]
 have kD := box_cells HM.out.box; have fD := box_frozen HM.out.box; have hBD := box_lt HM.out.box; have hDw := HM.out.hD
 obtain ⟨L, hL⟩ : ∃ q, ls.length = q := ⟨_, rfl⟩
 rw [hL] at kD
 have HLL := Lib.hid hL; clear hL
 go_upto_region 4 with fail
 rcases L with _ | m
 ·skip
  refine wp_region_till (fun _ => True) (fun _ => false) (by kernel_rfl) ?_
  have hS : True := trivial
  refine tk (i := 0) hS ?_
  refine tk (i := 1) hS ?_
  refine tk (i := 2) hS ?_
  refine tks (i := 3) hS ?_
  refine tks (i := 4) hS ?_
  refine tks (i := 5) hS ?_
  refine tks (i := 6) hS ?_
  refine tks (i := 7) hS ?_
  refine tks (i := 8) hS ?_
  refine tks (i := 9) hS ?_
  refine tks (i := 10) hS ?_
  refine tks (i := 11) hS ?_
  refine tks (i := 12) hS ?_
  refine tks (i := 13) hS ?_
  refine tks (i := 14) hS ?_
  refine tks (i := 15) hS ?_
  refine tks (i := 16) hS ?_
  refine tk (i := 17) hS ?_
  refine tk (i := 18) hS ?_
  refine tks (i := 19) hS ?_
  refine tks (i := 20) hS ?_
  refine tks (i := 21) hS ?_
  refine tk (i := 22) hS ?_
  refine wpTill_done (by kernel_rfl) ?_ _
  try simp only [List.getElem_toArray, List.getElem_cons_succ, List.getElem_cons_zero, Act.put, List.setIfInBounds_toArray, List.set_cons_zero, List.set_cons_succ]
  have Hx := Lib.hid (HM.out.keep (show Below w3.heap.size w3 w3.drew from (Below.refl _ _).drew)); clear HM
  clear kD fD hBD hDw
  obtain ⟨wx, hwx⟩ : ∃ q, w3.drew = q := ⟨_, rfl⟩
  rw [hwx] at Hx ⊢
  clear hwx
  go_upto_region 12 with fail
  have Hd := Lib.hid (Hx.out.keep (show Below wx.heap.size wx wx.drew from (Below.refl _ _).drew)); clear Hx
  refine wp_region_till (fun w' : World => (∀ i : Nat, w'.cell? ⟨D, i, none⟩ = ((Dc.cl d (.slice a2 xs.length cap2) (.slice sa ls.length scap)).toArray : Array Value)[i]?)) (fun _ => false) (by kernel_rfl) ?_
  have hS : (fun w' : World => (∀ i : Nat, w'.cell? ⟨D, i, none⟩ = ((Dc.cl d (.slice a2 xs.length cap2) (.slice sa ls.length scap)).toArray : Array Value)[i]?)) wx.drew := box_cells Hd.out.box
  refine' wpTill_take (i := 0) (oi := _) (v := _) rfl (by kernel_rfl) (by kernel_rfl) (by kernel_rfl) (by kernel_rfl) (fun _ _ _ h => h) (yieldsIf_load_mid (by rfl) _ _ rfl _ _ rfl (Dc.cl d (.slice a2 xs.length cap2) (.slice sa ls.length scap)) _ (fun wq hq => range_of_cells hq) Tryz.underlying40 rfl size_Dec) hS ?_
  try simp only [List.getElem_toArray, List.getElem_cons_succ, List.getElem_cons_zero, Act.put, List.setIfInBounds_toArray, List.set_cons_zero, List.set_cons_succ]
  refine tk (i := 1) hS ?_
  refine tk (i := 3) hS ?_
  refine wpTill_op (i := 2) (by kernel_rfl) rfl (fun K hK => ?_)
  go_simp
  refine (l4Number_w B _ Hd.out.up.cur).mono ?_
  rintro r v5 ⟨x5, rfl, hx5, hcq, hoq⟩
  have He := Lib.hid (Hd.out.step hcq hoq); clear Hd hcq hoq hS
  have hS : (fun w' : World => (∀ i : Nat, w'.cell? ⟨D, i, none⟩ = ((Dc.cl d (.slice a2 xs.length cap2) (.slice sa ls.length scap)).toArray : Array Value)[i]?)) v5 := box_cells He.out.box
  refine hK.out _ _ (fun _ => hS) ?_
  clear hK K
  try simp only [List.getElem_toArray, List.getElem_cons_succ, List.getElem_cons_zero, Act.put, List.setIfInBounds_toArray, List.set_cons_zero, List.set_cons_succ]
  refine wpTill_op (i := 4) (by kernel_rfl) rfl (fun K hK => ?_)
  go_simp
  refine (l1Below_any B 8 _ He.out.up.cur (by omega) (by omega)).mono ?_
  rintro r v6 ⟨x6, rfl, hx60, hx61, hcq, hoq⟩
  have Hf := Lib.hid (He.out.step hcq hoq); clear He hcq hoq hS
  have hS : (fun w' : World => (∀ i : Nat, w'.cell? ⟨D, i, none⟩ = ((Dc.cl d (.slice a2 xs.length cap2) (.slice sa ls.length scap)).toArray : Array Value)[i]?)) v6 := box_cells Hf.out.box
  refine hK.out _ _ (fun _ => hS) ?_
  clear hK K
  try simp only [List.getElem_toArray, List.getElem_cons_succ, List.getElem_cons_zero, Act.put, List.setIfInBounds_toArray, List.set_cons_zero, List.set_cons_succ]
  refine wpTill_op (i := 5) (by kernel_rfl) rfl (fun K hK => ?_)
  go_simp
  refine (tagOf_any x5 x6 _).mono ?_
  rintro r _ ⟨tu, rfl, htu, rfl⟩
  refine hK.out _ _ (fun _ => hS) ?_
  clear hK K
  try simp only [List.getElem_toArray, List.getElem_cons_succ, List.getElem_cons_zero, Act.put, List.setIfInBounds_toArray, List.set_cons_zero, List.set_cons_succ]
  have hu : (Lit.int .u64 (tu : Int)).wf = true := wu64_lim (by omega) (by have h2 : tu < 18446744073709551616 := htu; omega)
  refine wpTill_op (i := 6) (by kernel_rfl) rfl (fun K hK => ?_)
  refine step_store_row rfl 40 _ _ rfl w.heap.size (Dc.cl d (.slice a2 xs.length cap2) (.slice sa ls.length scap)).toArray rfl rfl 40 dz0.toArray Hf.out.res size_Dec rfl (one_Dec _ _ _ _ _ _ _) ?_
  have hne : w.heap.size ≠ D := by have := Hf.out.hD; have := Hf.out.hR; have := Hf.out.hB; omega
  have hS2 : (fun w' : World => (∀ i : Nat, w'.cell? ⟨D, i, none⟩ = ((Dc.cl d (.slice a2 xs.length cap2) (.slice sa ls.length scap)).toArray : Array Value)[i]?)) (v6.setRow w.heap.size (Dc.cl d (.slice a2 xs.length cap2) (.slice sa ls.length scap)).toArray) := fun i => (World.cell?_of_block (a := ⟨D, i, none⟩) (setRow_other _ _ _ _ (by simp; omega))).trans (hS i)
  refine hK.out _ _ (fun _ => hS2) ?_
  clear hK K
  try simp only [List.getElem_toArray, List.getElem_cons_succ, List.getElem_cons_zero, Act.put, List.setIfInBounds_toArray, List.set_cons_zero, List.set_cons_succ]
  refine wpTill_op (i := 7) (by kernel_rfl) rfl (fun K hK => ?_)
  go_simp
  refine hK.out _ _ (fun _ => hS2) ?_
  clear hK K
  try simp only [List.getElem_toArray, List.getElem_cons_succ, List.getElem_cons_zero, Act.put, List.setIfInBounds_toArray, List.set_cons_zero, List.set_cons_succ]
  refine wpTill_done (by kernel_rfl) ?_ _
  go_wp2
  exact TgI.done Tryz.results22 Hf.out hbw HS.out h9 hu rfl rfl
 ·have hml := HLL.out
  obtain ⟨l, he⟩ : ∃ l, ls[m]? = some l := ⟨_, List.getElem?_eq_getElem (by omega)⟩
  obtain ⟨g, rfl, hg0, hg1⟩ := own_pos HM.out.lv (by omega)
  obtain ⟨bq, oq, eq1, hlb, c0, c1⟩ := Lvls.at (lvls_of_own HM.out.lv rfl) he
  simp only [Option.some.injEq, Addr.mk.injEq, and_true] at eq1
  obtain ⟨rfl, rfl⟩ := eq1
  simp only [Nat.zero_add] at c0
  have hm9 : m ≤ 9 := by omega
  clear c1 he hml
  have hmw : IntKind.i64.wrap (m : Int) = m := IntWalk.i64_in _ (by omega)
  have hm0 : (0 : Int) ≤ (m : Int) := by omega
  have hmlt : (m : Int) < (m : Int) + 1 := by omega
  have hxw : IntKind.i64.wrap ((xs.length : Int) - 1) = (xs.length : Int) - 1 := IntWalk.i64_in _ (by omega)
  have cD0 := kD 0; have cD5 := kD 5
  simp only [List.getElem?_toArray, List.getElem?_cons_zero, List.getElem?_cons_succ] at cD0 cD5
  refine wp_region_till (Cells [(⟨D, 0, none⟩, .slice a2 xs.length cap2), (⟨D, 5, none⟩, .slice (some ⟨g, 0, none⟩) (m + 1) scap), (⟨g, m * 2, none⟩, .int .i64 l.msg)]) (fun _ => false) (by kernel_rfl) ?_
  have hS : Cells [(⟨D, 0, none⟩, .slice a2 xs.length cap2), (⟨D, 5, none⟩, .slice (some ⟨g, 0, none⟩) (m + 1) scap), (⟨g, m * 2, none⟩, .int .i64 l.msg)] w3.drew := cells_mk cD0 (cells_mk cD5 (cells_mk c0 (cells_no _)))
  clear c0 cD0 cD5
  clear kD fD hBD hDw
  have Hx := Lib.hid (HM.out.keep (show Below w3.heap.size w3 w3.drew from (Below.refl _ _).drew)); clear HM
  refine tk (i := 0) hS ?_
  refine tk (i := 1) hS ?_
  refine tk (i := 2) hS ?_
  refine tk (i := 3) hS ?_
  refine tk (i := 4) hS ?_
  refine tk (i := 5) hS ?_
  refine tk (i := 6) hS ?_
  refine tk (i := 7) hS ?_
  refine tk (i := 8) hS ?_
  refine tk (i := 9) hS ?_
  refine tk (i := 10) hS ?_
  refine tk (i := 11) hS ?_
  refine tk (i := 12) hS ?_
  refine tk (i := 13) hS ?_
  refine tk (i := 14) hS ?_
  refine tk (i := 15) hS ?_
  refine wpTill_op (i := 16) (by kernel_rfl) rfl (fun K hK => ?_)
  go_simp
  refine (l1In_any _ _ _ _).mono ?_
  rintro r _ ⟨rfl, rfl⟩
  cases hin : inB l.msg 0 ((xs.length : Int) - 1)
  ·skip
   refine hK.out _ _ (fun _ => hS) ?_
   clear hK K
   try simp only [List.getElem_toArray, List.getElem_cons_succ, List.getElem_cons_zero, Act.put, List.setIfInBounds_toArray, List.set_cons_zero, List.set_cons_succ]
   refine tk (i := 17) hS ?_
   refine tk (i := 18) hS ?_
   refine tks (i := 19) hS ?_
   refine tks (i := 20) hS ?_
   refine tks (i := 21) hS ?_
   refine tk (i := 22) hS ?_
   refine wpTill_done (by kernel_rfl) ?_ _
   try simp only [List.getElem_toArray, List.getElem_cons_succ, List.getElem_cons_zero, Act.put, List.setIfInBounds_toArray, List.set_cons_zero, List.set_cons_succ]
   clear hS
   obtain ⟨wx, hwx⟩ : ∃ q, w3.drew = q := ⟨_, rfl⟩
   rw [hwx] at Hx ⊢
   clear hwx
   go_upto_region 12 with fail
   have Hd := Lib.hid (Hx.out.keep (show Below wx.heap.size wx wx.drew from (Below.refl _ _).drew)); clear Hx
   refine wp_region_till (fun w' : World => (∀ i : Nat, w'.cell? ⟨D, i, none⟩ = ((Dc.cl d (.slice a2 xs.length cap2) (.slice (some ⟨g, 0, none⟩) ls.length scap)).toArray : Array Value)[i]?)) (fun _ => false) (by kernel_rfl) ?_
   have hS : (fun w' : World => (∀ i : Nat, w'.cell? ⟨D, i, none⟩ = ((Dc.cl d (.slice a2 xs.length cap2) (.slice (some ⟨g, 0, none⟩) ls.length scap)).toArray : Array Value)[i]?)) wx.drew := box_cells Hd.out.box
   refine' wpTill_take (i := 0) (oi := _) (v := _) rfl (by kernel_rfl) (by kernel_rfl) (by kernel_rfl) (by kernel_rfl) (fun _ _ _ h => h) (yieldsIf_load_mid (by rfl) _ _ rfl _ _ rfl (Dc.cl d (.slice a2 xs.length cap2) (.slice (some ⟨g, 0, none⟩) ls.length scap)) _ (fun wq hq => range_of_cells hq) Tryz.underlying40 rfl size_Dec) hS ?_
   try simp only [List.getElem_toArray, List.getElem_cons_succ, List.getElem_cons_zero, Act.put, List.setIfInBounds_toArray, List.set_cons_zero, List.set_cons_succ]
   refine tk (i := 1) hS ?_
   refine tk (i := 3) hS ?_
   refine wpTill_op (i := 2) (by kernel_rfl) rfl (fun K hK => ?_)
   go_simp
   refine (l4Number_w B _ Hd.out.up.cur).mono ?_
   rintro r v5 ⟨x5, rfl, hx5, hcq, hoq⟩
   have He := Lib.hid (Hd.out.step hcq hoq); clear Hd hcq hoq hS
   have hS : (fun w' : World => (∀ i : Nat, w'.cell? ⟨D, i, none⟩ = ((Dc.cl d (.slice a2 xs.length cap2) (.slice (some ⟨g, 0, none⟩) ls.length scap)).toArray : Array Value)[i]?)) v5 := box_cells He.out.box
   refine hK.out _ _ (fun _ => hS) ?_
   clear hK K
   try simp only [List.getElem_toArray, List.getElem_cons_succ, List.getElem_cons_zero, Act.put, List.setIfInBounds_toArray, List.set_cons_zero, List.set_cons_succ]
   refine wpTill_op (i := 4) (by kernel_rfl) rfl (fun K hK => ?_)
   go_simp
   refine (l1Below_any B 8 _ He.out.up.cur (by omega) (by omega)).mono ?_
   rintro r v6 ⟨x6, rfl, hx60, hx61, hcq, hoq⟩
   have Hf := Lib.hid (He.out.step hcq hoq); clear He hcq hoq hS
   have hS : (fun w' : World => (∀ i : Nat, w'.cell? ⟨D, i, none⟩ = ((Dc.cl d (.slice a2 xs.length cap2) (.slice (some ⟨g, 0, none⟩) ls.length scap)).toArray : Array Value)[i]?)) v6 := box_cells Hf.out.box
   refine hK.out _ _ (fun _ => hS) ?_
   clear hK K
   try simp only [List.getElem_toArray, List.getElem_cons_succ, List.getElem_cons_zero, Act.put, List.setIfInBounds_toArray, List.set_cons_zero, List.set_cons_succ]
   refine wpTill_op (i := 5) (by kernel_rfl) rfl (fun K hK => ?_)
   go_simp
   refine (tagOf_any x5 x6 _).mono ?_
   rintro r _ ⟨tu, rfl, htu, rfl⟩
   refine hK.out _ _ (fun _ => hS) ?_
   clear hK K
   try simp only [List.getElem_toArray, List.getElem_cons_succ, List.getElem_cons_zero, Act.put, List.setIfInBounds_toArray, List.set_cons_zero, List.set_cons_succ]
   have hu : (Lit.int .u64 (tu : Int)).wf = true := wu64_lim (by omega) (by have h2 : tu < 18446744073709551616 := htu; omega)
   refine wpTill_op (i := 6) (by kernel_rfl) rfl (fun K hK => ?_)
   refine step_store_row rfl 40 _ _ rfl w.heap.size (Dc.cl d (.slice a2 xs.length cap2) (.slice (some ⟨g, 0, none⟩) ls.length scap)).toArray rfl rfl 40 dz0.toArray Hf.out.res size_Dec rfl (one_Dec _ _ _ _ _ _ _) ?_
   have hne : w.heap.size ≠ D := by have := Hf.out.hD; have := Hf.out.hR; have := Hf.out.hB; omega
   have hS2 : (fun w' : World => (∀ i : Nat, w'.cell? ⟨D, i, none⟩ = ((Dc.cl d (.slice a2 xs.length cap2) (.slice (some ⟨g, 0, none⟩) ls.length scap)).toArray : Array Value)[i]?)) (v6.setRow w.heap.size (Dc.cl d (.slice a2 xs.length cap2) (.slice (some ⟨g, 0, none⟩) ls.length scap)).toArray) := fun i => (World.cell?_of_block (a := ⟨D, i, none⟩) (setRow_other _ _ _ _ (by simp; omega))).trans (hS i)
   refine hK.out _ _ (fun _ => hS2) ?_
   clear hK K
   try simp only [List.getElem_toArray, List.getElem_cons_succ, List.getElem_cons_zero, Act.put, List.setIfInBounds_toArray, List.set_cons_zero, List.set_cons_succ]
   refine wpTill_op (i := 7) (by kernel_rfl) rfl (fun K hK => ?_)
   go_simp
   refine hK.out _ _ (fun _ => hS2) ?_
   clear hK K
   try simp only [List.getElem_toArray, List.getElem_cons_succ, List.getElem_cons_zero, Act.put, List.setIfInBounds_toArray, List.set_cons_zero, List.set_cons_succ]
   refine wpTill_done (by kernel_rfl) ?_ _
   go_wp2
   exact TgI.done Tryz.results22 Hf.out hbw HS.out h9 hu rfl rfl
  ·skip
   refine hK.out _ _ (fun _ => hS) ?_
   clear hK K
   try simp only [List.getElem_toArray, List.getElem_cons_succ, List.getElem_cons_zero, Act.put, List.setIfInBounds_toArray, List.set_cons_zero, List.set_cons_succ]
   refine tk (i := 17) hS ?_
   refine tk (i := 18) hS ?_
   refine tk (i := 19) hS ?_
   refine wpTill_op (i := 20) (by kernel_rfl) rfl (fun K hK => ?_)
   go_simp
   refine (l1Once_any B 4 _ Hx.out.up.cur (by omega) (by omega)).mono ?_
   rintro r w4 ⟨b4, rfl, hcq, hoq⟩
   have Hy := Lib.hid (Hx.out.step hcq hoq); clear Hx
   have hS' := hS.oth2 hoq (by intro q hq; have := Hy.out.hD; have := Hy.out.hB; simp only [List.mem_cons, List.not_mem_nil, or_false] at hq; rcases hq with rfl | rfl | rfl <;> (simp only; omega)); clear hS hcq hoq; have hS := hS'; clear hS'
   refine hK.out _ _ (fun _ => hS) ?_
   clear hK K
   try simp only [List.getElem_toArray, List.getElem_cons_succ, List.getElem_cons_zero, Act.put, List.setIfInBounds_toArray, List.set_cons_zero, List.set_cons_succ]
   refine tk (i := 21) hS ?_
   refine tk (i := 22) hS ?_
   refine wpTill_done (by kernel_rfl) ?_ _
   try simp only [List.getElem_toArray, List.getElem_cons_succ, List.getElem_cons_zero, Act.put, List.setIfInBounds_toArray, List.set_cons_zero, List.set_cons_succ]
   cases b4
   ·skip
    obtain ⟨k, hk⟩ : ∃ k : Nat, l.msg = k := ⟨l.msg.toNat, by simp only [inB, decide_eq_true_eq] at hin; omega⟩
    have hkx : k < xs.length := by simp only [inB, decide_eq_true_eq] at hin; omega
    clear hin
    obtain ⟨x, hxk⟩ : ∃ x, xs[k]? = some x := ⟨_, List.getElem?_eq_getElem hkx⟩
    have hx6 : x.flds.length ≤ 6 := HS.out.len x (List.mem_of_getElem? hxk)
    obtain ⟨⟨rid, fa, fn_, fcap⟩, hr⟩ : ∃ r, rs[k]? = some r := ⟨_, List.getElem?_eq_getElem (by rw [Hy.out.sh.len]; exact hkx)⟩
    obtain ⟨_, hr2, hrow⟩ := Hy.out.sh.each k _ x hr hxk
    simp only at hr2 hrow
    rw [← hr2] at hx6
    obtain ⟨bs, rfl, hbs0, hbs1⟩ := own_pos Hy.out.sh.outer (by omega)
    have s1 : w4.cell? ⟨bs, k * 2 + 1, none⟩ = some (.slice fa fn_ fcap) := by rw [Hy.out.sh.outer.cellAt (k * 2 + 1) (by omega), flatMap_at shR_len rs k 1 _ hr (by omega)]; rfl
    rw [hk] at hS
    clear hk hxk hr hr2
    rw [cells_cons, cells_cons, cells_cons] at hS
    obtain ⟨q0, q5, qm, _⟩ := hS
    have hk0 : (0 : Int) ≤ (k : Int) := by omega
    have hkl : (k : Int) < (xs.length : Int) := by omega
    go_upto_region 5 with fail
    refine wp_region_till (Cells [(⟨D, 0, none⟩, .slice (some ⟨bs, 0, none⟩) xs.length cap2), (⟨D, 5, none⟩, .slice (some ⟨g, 0, none⟩) (m + 1) scap), (⟨g, m * 2, none⟩, .int .i64 k), (⟨bs, k * 2 + 1, none⟩, .slice fa fn_ fcap)]) (fun _ => false) (by kernel_rfl) ?_
    have hS : Cells [(⟨D, 0, none⟩, .slice (some ⟨bs, 0, none⟩) xs.length cap2), (⟨D, 5, none⟩, .slice (some ⟨g, 0, none⟩) (m + 1) scap), (⟨g, m * 2, none⟩, .int .i64 k), (⟨bs, k * 2 + 1, none⟩, .slice fa fn_ fcap)] w4.drew := cells_mk q0 (cells_mk q5 (cells_mk qm (cells_mk s1 (cells_no _))))
    clear q0 q5 qm s1
    have Hz := Lib.hid (Hy.out.keep (show Below w4.heap.size w4 w4.drew from (Below.refl _ _).drew)); clear Hy
    have HFL := Lib.hid (World.ownsRow.drew hrow); clear hrow
    refine tk (i := 0) hS ?_
    refine tk (i := 1) hS ?_
    refine tk (i := 2) hS ?_
    refine tk (i := 3) hS ?_
    refine tk (i := 4) hS ?_
    refine tk (i := 5) hS ?_
    refine tk (i := 6) hS ?_
    refine tk (i := 7) hS ?_
    refine tk (i := 8) hS ?_
    refine tk (i := 9) hS ?_
    refine tk (i := 10) hS ?_
    refine tk (i := 11) hS ?_
    refine tk (i := 12) hS ?_
    refine tk (i := 13) hS ?_
    refine wpTill_op (i := 14) (by kernel_rfl) rfl (fun K hK => ?_)
    go_simp
    refine hK.out _ _ (fun _ => hS) ?_
    clear hK K
    try simp only [List.getElem_toArray, List.getElem_cons_succ, List.getElem_cons_zero, Act.put, List.setIfInBounds_toArray, List.set_cons_zero, List.set_cons_succ]
    refine wpTill_done (by kernel_rfl) ?_ _
    clear hS
    obtain ⟨w5, hw_⟩ : ∃ q, w4.drew = q := ⟨_, rfl⟩
    rw [hw_] at Hz HFL ⊢
    clear hw_ hmw hm0 hmlt hxw hk0 hkl
    rcases fn_ with _ | m2
    ·skip
     go_upto_region 12 with fail
     have Hd := Lib.hid (Hz.out.keep (show Below w5.heap.size w5 w5.drew from (Below.refl _ _).drew)); clear Hz
     refine wp_region_till (fun w' : World => (∀ i : Nat, w'.cell? ⟨D, i, none⟩ = ((Dc.cl d (.slice (some ⟨bs, 0, none⟩) xs.length cap2) (.slice (some ⟨g, 0, none⟩) ls.length scap)).toArray : Array Value)[i]?)) (fun _ => false) (by kernel_rfl) ?_
     have hS : (fun w' : World => (∀ i : Nat, w'.cell? ⟨D, i, none⟩ = ((Dc.cl d (.slice (some ⟨bs, 0, none⟩) xs.length cap2) (.slice (some ⟨g, 0, none⟩) ls.length scap)).toArray : Array Value)[i]?)) w5.drew := box_cells Hd.out.box
     refine' wpTill_take (i := 0) (oi := _) (v := _) rfl (by kernel_rfl) (by kernel_rfl) (by kernel_rfl) (by kernel_rfl) (fun _ _ _ h => h) (yieldsIf_load_mid (by rfl) _ _ rfl _ _ rfl (Dc.cl d (.slice (some ⟨bs, 0, none⟩) xs.length cap2) (.slice (some ⟨g, 0, none⟩) ls.length scap)) _ (fun wq hq => range_of_cells hq) Tryz.underlying40 rfl size_Dec) hS ?_
     try simp only [List.getElem_toArray, List.getElem_cons_succ, List.getElem_cons_zero, Act.put, List.setIfInBounds_toArray, List.set_cons_zero, List.set_cons_succ]
     refine tk (i := 1) hS ?_
     refine tk (i := 3) hS ?_
     refine wpTill_op (i := 2) (by kernel_rfl) rfl (fun K hK => ?_)
     go_simp
     refine (l4Number_w B _ Hd.out.up.cur).mono ?_
     rintro r v5 ⟨x5, rfl, hx5, hcq, hoq⟩
     have He := Lib.hid (Hd.out.step hcq hoq); clear Hd hcq hoq hS
     have hS : (fun w' : World => (∀ i : Nat, w'.cell? ⟨D, i, none⟩ = ((Dc.cl d (.slice (some ⟨bs, 0, none⟩) xs.length cap2) (.slice (some ⟨g, 0, none⟩) ls.length scap)).toArray : Array Value)[i]?)) v5 := box_cells He.out.box
     refine hK.out _ _ (fun _ => hS) ?_
     clear hK K
     try simp only [List.getElem_toArray, List.getElem_cons_succ, List.getElem_cons_zero, Act.put, List.setIfInBounds_toArray, List.set_cons_zero, List.set_cons_succ]
     refine wpTill_op (i := 4) (by kernel_rfl) rfl (fun K hK => ?_)
     go_simp
     refine (l1Below_any B 8 _ He.out.up.cur (by omega) (by omega)).mono ?_
     rintro r v6 ⟨x6, rfl, hx60, hx61, hcq, hoq⟩
     have Hf := Lib.hid (He.out.step hcq hoq); clear He hcq hoq hS
     have hS : (fun w' : World => (∀ i : Nat, w'.cell? ⟨D, i, none⟩ = ((Dc.cl d (.slice (some ⟨bs, 0, none⟩) xs.length cap2) (.slice (some ⟨g, 0, none⟩) ls.length scap)).toArray : Array Value)[i]?)) v6 := box_cells Hf.out.box
     refine hK.out _ _ (fun _ => hS) ?_
     clear hK K
     try simp only [List.getElem_toArray, List.getElem_cons_succ, List.getElem_cons_zero, Act.put, List.setIfInBounds_toArray, List.set_cons_zero, List.set_cons_succ]
     refine wpTill_op (i := 5) (by kernel_rfl) rfl (fun K hK => ?_)
     go_simp
     refine (tagOf_any x5 x6 _).mono ?_
     rintro r _ ⟨tu, rfl, htu, rfl⟩
     refine hK.out _ _ (fun _ => hS) ?_
     clear hK K
     try simp only [List.getElem_toArray, List.getElem_cons_succ, List.getElem_cons_zero, Act.put, List.setIfInBounds_toArray, List.set_cons_zero, List.set_cons_succ]
     have hu : (Lit.int .u64 (tu : Int)).wf = true := wu64_lim (by omega) (by have h2 : tu < 18446744073709551616 := htu; omega)
     refine wpTill_op (i := 6) (by kernel_rfl) rfl (fun K hK => ?_)
     refine step_store_row rfl 40 _ _ rfl w.heap.size (Dc.cl d (.slice (some ⟨bs, 0, none⟩) xs.length cap2) (.slice (some ⟨g, 0, none⟩) ls.length scap)).toArray rfl rfl 40 dz0.toArray Hf.out.res size_Dec rfl (one_Dec _ _ _ _ _ _ _) ?_
     have hne : w.heap.size ≠ D := by have := Hf.out.hD; have := Hf.out.hR; have := Hf.out.hB; omega
     have hS2 : (fun w' : World => (∀ i : Nat, w'.cell? ⟨D, i, none⟩ = ((Dc.cl d (.slice (some ⟨bs, 0, none⟩) xs.length cap2) (.slice (some ⟨g, 0, none⟩) ls.length scap)).toArray : Array Value)[i]?)) (v6.setRow w.heap.size (Dc.cl d (.slice (some ⟨bs, 0, none⟩) xs.length cap2) (.slice (some ⟨g, 0, none⟩) ls.length scap)).toArray) := fun i => (World.cell?_of_block (a := ⟨D, i, none⟩) (setRow_other _ _ _ _ (by simp; omega))).trans (hS i)
     refine hK.out _ _ (fun _ => hS2) ?_
     clear hK K
     try simp only [List.getElem_toArray, List.getElem_cons_succ, List.getElem_cons_zero, Act.put, List.setIfInBounds_toArray, List.set_cons_zero, List.set_cons_succ]
     refine wpTill_op (i := 7) (by kernel_rfl) rfl (fun K hK => ?_)
     go_simp
     refine hK.out _ _ (fun _ => hS2) ?_
     clear hK K
     try simp only [List.getElem_toArray, List.getElem_cons_succ, List.getElem_cons_zero, Act.put, List.setIfInBounds_toArray, List.set_cons_zero, List.set_cons_succ]
     refine wpTill_done (by kernel_rfl) ?_ _
     go_wp2
     exact TgI.done Tryz.results22 Hf.out hbw HS.out h9 hu rfl rfl
    ·go_wp2_with fail
     refine (l1Below_any B (m2 + 1) _ Hz.out.up.cur (by omega) (by omega)).mono ?_
     rintro r w6 ⟨j, rfl, hj0, hj1, hcq, hoq⟩
     obtain ⟨j, rfl⟩ := Int.eq_ofNat_of_zero_le hj0
     obtain ⟨gf, rfl, hgf0, hgf1⟩ := own_pos HFL.out (by omega)
     have HFL2 := Lib.hid (owns_oth HFL.out hoq hcl); clear HFL
     have Ha := Lib.hid (Hz.out.step hcq hoq); clear Hz hcq hoq
     have hfll := HFL2.out.1
     rw [flatMap_len fld_len] at hfll
     obtain ⟨f, hfj⟩ : ∃ f, x.flds[j]? = some f := ⟨_, List.getElem?_eq_getElem (by omega)⟩
     obtain ⟨bf, of, ef, hbf, f0, f1, f2, f3, f4⟩ := Flds.at (flds_of_own HFL2.out (by omega)) hfj
     simp only [Option.some.injEq, Addr.mk.injEq, and_true] at ef
     obtain ⟨rfl, rfl⟩ := ef
     simp only [Nat.zero_add] at f0 f1 f2 f3 f4
     clear hfj hfll HFL2
     obtain ⟨fn, fk, frp, fpk, fm⟩ := f
     simp only at f0 f1 f2 f3 f4
     have hjlt : (j : Int) < (m2 : Int) + 1 := by omega
     go_wp2_with fail
     clear f0 f1 f2 f3 f4
     refine (specWireOf_any fk _).mono ?_
     rintro r w7 ⟨rfl, hb7⟩
     obtain ⟨wi, hwi⟩ : ∃ q, wireOf fk = q := ⟨_, rfl⟩
     rw [hwi]
     clear hwi
     have hal : Below w6.heap.size w6 (w6.alloc (.cells #[.int .i64 fn, .int .i64 fk, .bool frp, .bool fpk, .int .i64 fm] 34)) := (Below.refl _ _).alloc (Nat.le_refl _) _
     have hF7 := (hb7.block w6.heap.size (by simp)).trans (hset_new (w := w6) (o := .cells #[.int .i64 fn, .int .i64 fk, .bool frp, .bool fpk, .int .i64 fm] 34) rfl)
     have Hb := Lib.hid ((Ha.out.keep hal).keep hb7)
     have hFw : w.heap.size < w6.heap.size ∧ w6.heap.size ≠ B := by have := Ha.out.up.oth.size; have := Ha.out.hB; have := Ha.out.hR; omega
     clear Ha hal hb7
     obtain ⟨F, hFe⟩ : ∃ q, w6.heap.size = q := ⟨_, rfl⟩
     rw [hFe] at hF7 hFw
     try simp only [hFe]
     clear hFe
     obtain ⟨hFw, hFB⟩ := hFw
     have HF7 := Lib.hid hF7; clear hF7
     go_wp2_with fail
     refine (l1Once_any B 4 _ Hb.out.up.cur (by omega) (by omega)).mono ?_
     rintro r w8 ⟨b8, rfl, hcq, hoq⟩
     have Hc := Lib.hid (Hb.out.step hcq hoq)
     have HF := Lib.hid ((hoq.block (box_lt HF7.out) hFB).trans HF7.out)
     clear Hb HF7 hcq hoq
     cases b8
     ·have kF := box_cells HF.out; have fF := box_frozen HF.out; have hBF := box_lt HF.out
      go_upto_region 11 with fail
      have Hf := Lib.hid (Hc.out.keep (show Below w8.heap.size w8 w8.drew from (Below.refl _ _).drew)); clear Hc
      have cF : w8.drew.cell? ⟨F, 0, none⟩ = some (.int .i64 fn) := box_cells HF.out 0
      refine wp_region_till (fun w' : World => (∀ i : Nat, w'.cell? ⟨D, i, none⟩ = ((Dc.cl d (.slice (some ⟨bs, 0, none⟩) xs.length cap2) (.slice (some ⟨g, 0, none⟩) ls.length scap)).toArray : Array Value)[i]?) ∧ w'.cell? ⟨F, 0, none⟩ = some (.int .i64 fn)) (fun _ => false) (by kernel_rfl) ?_
      have hS : (fun w' : World => (∀ i : Nat, w'.cell? ⟨D, i, none⟩ = ((Dc.cl d (.slice (some ⟨bs, 0, none⟩) xs.length cap2) (.slice (some ⟨g, 0, none⟩) ls.length scap)).toArray : Array Value)[i]?) ∧ w'.cell? ⟨F, 0, none⟩ = some (.int .i64 fn)) w8.drew := ⟨box_cells Hf.out.box, cF⟩
      clear cF
      refine' wpTill_take (i := 0) (oi := _) (v := _) rfl (by kernel_rfl) (by kernel_rfl) (by kernel_rfl) (by kernel_rfl) (fun _ _ _ h => h) (yieldsIf_load_mid (by rfl) _ _ rfl _ _ rfl (Dc.cl d (.slice (some ⟨bs, 0, none⟩) xs.length cap2) (.slice (some ⟨g, 0, none⟩) ls.length scap)) _ (fun wq hq => range_of_cells hq.1) Tryz.underlying40 rfl size_Dec) hS ?_
      try simp only [List.getElem_toArray, List.getElem_cons_succ, List.getElem_cons_zero, Act.put, List.setIfInBounds_toArray, List.set_cons_zero, List.set_cons_succ]
      refine tk (i := 1) hS ?_
      refine tk (i := 2) hS ?_
      refine tk (i := 3) hS ?_
      refine wpTill_op (i := 4) (by kernel_rfl) rfl (fun K hK => ?_)
      go_simp
      refine (l1Max_any 0 wi _).mono ?_
      rintro r _ ⟨rfl, rfl⟩
      refine hK.out _ _ (fun _ => hS) ?_
      clear hK K
      try simp only [List.getElem_toArray, List.getElem_cons_succ, List.getElem_cons_zero, Act.put, List.setIfInBounds_toArray, List.set_cons_zero, List.set_cons_succ]
      refine wpTill_op (i := 5) (by kernel_rfl) rfl (fun K hK => ?_)
      go_simp
      refine (tagOf_any fn _ _).mono ?_
      rintro r _ ⟨tu, rfl, htu, rfl⟩
      refine hK.out _ _ (fun _ => hS) ?_
      clear hK K
      try simp only [List.getElem_toArray, List.getElem_cons_succ, List.getElem_cons_zero, Act.put, List.setIfInBounds_toArray, List.set_cons_zero, List.set_cons_succ]
      have hu : (Lit.int .u64 (tu : Int)).wf = true := wu64_lim (by omega) (by have h2 : tu < 18446744073709551616 := htu; omega)
      refine wpTill_op (i := 6) (by kernel_rfl) rfl (fun K hK => ?_)
      refine step_store_row rfl 40 _ _ rfl w.heap.size (Dc.cl d (.slice (some ⟨bs, 0, none⟩) xs.length cap2) (.slice (some ⟨g, 0, none⟩) ls.length scap)).toArray rfl rfl 40 dz0.toArray Hf.out.res size_Dec rfl (one_Dec _ _ _ _ _ _ _) ?_
      have hne : w.heap.size ≠ D := by have := Hf.out.hD; have := Hf.out.hR; have := Hf.out.hB; omega
      have hne2 : w.heap.size ≠ F := by omega
      have hS2 : (fun w' : World => (∀ i : Nat, w'.cell? ⟨D, i, none⟩ = ((Dc.cl d (.slice (some ⟨bs, 0, none⟩) xs.length cap2) (.slice (some ⟨g, 0, none⟩) ls.length scap)).toArray : Array Value)[i]?) ∧ w'.cell? ⟨F, 0, none⟩ = some (.int .i64 fn)) (w8.drew.setRow w.heap.size (Dc.cl d (.slice (some ⟨bs, 0, none⟩) xs.length cap2) (.slice (some ⟨g, 0, none⟩) ls.length scap)).toArray) := ⟨fun i => (World.cell?_of_block (a := ⟨D, i, none⟩) (setRow_other _ _ _ _ (by simp; omega))).trans (hS.1 i), (World.cell?_of_block (a := ⟨F, 0, none⟩) (setRow_other _ _ _ _ (by simp; omega))).trans hS.2⟩
      refine hK.out _ _ (fun _ => hS2) ?_
      clear hK K
      try simp only [List.getElem_toArray, List.getElem_cons_succ, List.getElem_cons_zero, Act.put, List.setIfInBounds_toArray, List.set_cons_zero, List.set_cons_succ]
      refine wpTill_op (i := 7) (by kernel_rfl) rfl (fun K hK => ?_)
      go_simp
      refine hK.out _ _ (fun _ => hS2) ?_
      clear hK K
      try simp only [List.getElem_toArray, List.getElem_cons_succ, List.getElem_cons_zero, Act.put, List.setIfInBounds_toArray, List.set_cons_zero, List.set_cons_succ]
      refine wpTill_done (by kernel_rfl) ?_ _
      go_wp2
      exact TgI.done Tryz.results22 Hf.out hbw HS.out h9 hu rfl rfl
     ·go_wp2_with fail
      refine (l1Below_any B 8 _ Hc.out.up.cur (by omega) (by omega)).mono ?_
      rintro r w9 ⟨wj, rfl, hwj0, hwj1, hcq, hoq⟩
      have Hc2 := Lib.hid (Hc.out.step hcq hoq)
      have HF2 := Lib.hid ((hoq.block (box_lt HF.out) hFB).trans HF.out)
      clear Hc HF hcq hoq
      have HF := HF2; clear HF2
      have kF := box_cells HF.out; have fF := box_frozen HF.out; have hBF := box_lt HF.out
      obtain ⟨wi2, hwi2⟩ : ∃ q, wj = q := ⟨_, rfl⟩
      subst hwi2
      go_upto_region 11 with fail
      have Hf := Lib.hid (Hc2.out.keep (show Below w9.heap.size w9 w9.drew from (Below.refl _ _).drew)); clear Hc2
      have cF : w9.drew.cell? ⟨F, 0, none⟩ = some (.int .i64 fn) := box_cells HF.out 0
      refine wp_region_till (fun w' : World => (∀ i : Nat, w'.cell? ⟨D, i, none⟩ = ((Dc.cl d (.slice (some ⟨bs, 0, none⟩) xs.length cap2) (.slice (some ⟨g, 0, none⟩) ls.length scap)).toArray : Array Value)[i]?) ∧ w'.cell? ⟨F, 0, none⟩ = some (.int .i64 fn)) (fun _ => false) (by kernel_rfl) ?_
      have hS : (fun w' : World => (∀ i : Nat, w'.cell? ⟨D, i, none⟩ = ((Dc.cl d (.slice (some ⟨bs, 0, none⟩) xs.length cap2) (.slice (some ⟨g, 0, none⟩) ls.length scap)).toArray : Array Value)[i]?) ∧ w'.cell? ⟨F, 0, none⟩ = some (.int .i64 fn)) w9.drew := ⟨box_cells Hf.out.box, cF⟩
      clear cF
      refine' wpTill_take (i := 0) (oi := _) (v := _) rfl (by kernel_rfl) (by kernel_rfl) (by kernel_rfl) (by kernel_rfl) (fun _ _ _ h => h) (yieldsIf_load_mid (by rfl) _ _ rfl _ _ rfl (Dc.cl d (.slice (some ⟨bs, 0, none⟩) xs.length cap2) (.slice (some ⟨g, 0, none⟩) ls.length scap)) _ (fun wq hq => range_of_cells hq.1) Tryz.underlying40 rfl size_Dec) hS ?_
      try simp only [List.getElem_toArray, List.getElem_cons_succ, List.getElem_cons_zero, Act.put, List.setIfInBounds_toArray, List.set_cons_zero, List.set_cons_succ]
      refine tk (i := 1) hS ?_
      refine tk (i := 2) hS ?_
      refine tk (i := 3) hS ?_
      refine wpTill_op (i := 4) (by kernel_rfl) rfl (fun K hK => ?_)
      go_simp
      refine (l1Max_any 0 wj _).mono ?_
      rintro r _ ⟨rfl, rfl⟩
      refine hK.out _ _ (fun _ => hS) ?_
      clear hK K
      try simp only [List.getElem_toArray, List.getElem_cons_succ, List.getElem_cons_zero, Act.put, List.setIfInBounds_toArray, List.set_cons_zero, List.set_cons_succ]
      refine wpTill_op (i := 5) (by kernel_rfl) rfl (fun K hK => ?_)
      go_simp
      refine (tagOf_any fn _ _).mono ?_
      rintro r _ ⟨tu, rfl, htu, rfl⟩
      refine hK.out _ _ (fun _ => hS) ?_
      clear hK K
      try simp only [List.getElem_toArray, List.getElem_cons_succ, List.getElem_cons_zero, Act.put, List.setIfInBounds_toArray, List.set_cons_zero, List.set_cons_succ]
      have hu : (Lit.int .u64 (tu : Int)).wf = true := wu64_lim (by omega) (by have h2 : tu < 18446744073709551616 := htu; omega)
      refine wpTill_op (i := 6) (by kernel_rfl) rfl (fun K hK => ?_)
      refine step_store_row rfl 40 _ _ rfl w.heap.size (Dc.cl d (.slice (some ⟨bs, 0, none⟩) xs.length cap2) (.slice (some ⟨g, 0, none⟩) ls.length scap)).toArray rfl rfl 40 dz0.toArray Hf.out.res size_Dec rfl (one_Dec _ _ _ _ _ _ _) ?_
      have hne : w.heap.size ≠ D := by have := Hf.out.hD; have := Hf.out.hR; have := Hf.out.hB; omega
      have hne2 : w.heap.size ≠ F := by omega
      have hS2 : (fun w' : World => (∀ i : Nat, w'.cell? ⟨D, i, none⟩ = ((Dc.cl d (.slice (some ⟨bs, 0, none⟩) xs.length cap2) (.slice (some ⟨g, 0, none⟩) ls.length scap)).toArray : Array Value)[i]?) ∧ w'.cell? ⟨F, 0, none⟩ = some (.int .i64 fn)) (w9.drew.setRow w.heap.size (Dc.cl d (.slice (some ⟨bs, 0, none⟩) xs.length cap2) (.slice (some ⟨g, 0, none⟩) ls.length scap)).toArray) := ⟨fun i => (World.cell?_of_block (a := ⟨D, i, none⟩) (setRow_other _ _ _ _ (by simp; omega))).trans (hS.1 i), (World.cell?_of_block (a := ⟨F, 0, none⟩) (setRow_other _ _ _ _ (by simp; omega))).trans hS.2⟩
      refine hK.out _ _ (fun _ => hS2) ?_
      clear hK K
      try simp only [List.getElem_toArray, List.getElem_cons_succ, List.getElem_cons_zero, Act.put, List.setIfInBounds_toArray, List.set_cons_zero, List.set_cons_succ]
      refine wpTill_op (i := 7) (by kernel_rfl) rfl (fun K hK => ?_)
      go_simp
      refine hK.out _ _ (fun _ => hS2) ?_
      clear hK K
      try simp only [List.getElem_toArray, List.getElem_cons_succ, List.getElem_cons_zero, Act.put, List.setIfInBounds_toArray, List.set_cons_zero, List.set_cons_succ]
      refine wpTill_done (by kernel_rfl) ?_ _
      go_wp2
      exact TgI.done Tryz.results22 Hf.out hbw HS.out h9 hu rfl rfl
   ·skip
    go_upto_region 12 with fail
    have Hd := Lib.hid (Hy.out.keep (show Below w4.heap.size w4 w4.drew from (Below.refl _ _).drew)); clear Hy
    refine wp_region_till (fun w' : World => (∀ i : Nat, w'.cell? ⟨D, i, none⟩ = ((Dc.cl d (.slice a2 xs.length cap2) (.slice (some ⟨g, 0, none⟩) ls.length scap)).toArray : Array Value)[i]?)) (fun _ => false) (by kernel_rfl) ?_
    have hS : (fun w' : World => (∀ i : Nat, w'.cell? ⟨D, i, none⟩ = ((Dc.cl d (.slice a2 xs.length cap2) (.slice (some ⟨g, 0, none⟩) ls.length scap)).toArray : Array Value)[i]?)) w4.drew := box_cells Hd.out.box
    refine' wpTill_take (i := 0) (oi := _) (v := _) rfl (by kernel_rfl) (by kernel_rfl) (by kernel_rfl) (by kernel_rfl) (fun _ _ _ h => h) (yieldsIf_load_mid (by rfl) _ _ rfl _ _ rfl (Dc.cl d (.slice a2 xs.length cap2) (.slice (some ⟨g, 0, none⟩) ls.length scap)) _ (fun wq hq => range_of_cells hq) Tryz.underlying40 rfl size_Dec) hS ?_
    try simp only [List.getElem_toArray, List.getElem_cons_succ, List.getElem_cons_zero, Act.put, List.setIfInBounds_toArray, List.set_cons_zero, List.set_cons_succ]
    refine tk (i := 1) hS ?_
    refine tk (i := 3) hS ?_
    refine wpTill_op (i := 2) (by kernel_rfl) rfl (fun K hK => ?_)
    go_simp
    refine (l4Number_w B _ Hd.out.up.cur).mono ?_
    rintro r v5 ⟨x5, rfl, hx5, hcq, hoq⟩
    have He := Lib.hid (Hd.out.step hcq hoq); clear Hd hcq hoq hS
    have hS : (fun w' : World => (∀ i : Nat, w'.cell? ⟨D, i, none⟩ = ((Dc.cl d (.slice a2 xs.length cap2) (.slice (some ⟨g, 0, none⟩) ls.length scap)).toArray : Array Value)[i]?)) v5 := box_cells He.out.box
    refine hK.out _ _ (fun _ => hS) ?_
    clear hK K
    try simp only [List.getElem_toArray, List.getElem_cons_succ, List.getElem_cons_zero, Act.put, List.setIfInBounds_toArray, List.set_cons_zero, List.set_cons_succ]
    refine wpTill_op (i := 4) (by kernel_rfl) rfl (fun K hK => ?_)
    go_simp
    refine (l1Below_any B 8 _ He.out.up.cur (by omega) (by omega)).mono ?_
    rintro r v6 ⟨x6, rfl, hx60, hx61, hcq, hoq⟩
    have Hf := Lib.hid (He.out.step hcq hoq); clear He hcq hoq hS
    have hS : (fun w' : World => (∀ i : Nat, w'.cell? ⟨D, i, none⟩ = ((Dc.cl d (.slice a2 xs.length cap2) (.slice (some ⟨g, 0, none⟩) ls.length scap)).toArray : Array Value)[i]?)) v6 := box_cells Hf.out.box
    refine hK.out _ _ (fun _ => hS) ?_
    clear hK K
    try simp only [List.getElem_toArray, List.getElem_cons_succ, List.getElem_cons_zero, Act.put, List.setIfInBounds_toArray, List.set_cons_zero, List.set_cons_succ]
    refine wpTill_op (i := 5) (by kernel_rfl) rfl (fun K hK => ?_)
    go_simp
    refine (tagOf_any x5 x6 _).mono ?_
    rintro r _ ⟨tu, rfl, htu, rfl⟩
    refine hK.out _ _ (fun _ => hS) ?_
    clear hK K
    try simp only [List.getElem_toArray, List.getElem_cons_succ, List.getElem_cons_zero, Act.put, List.setIfInBounds_toArray, List.set_cons_zero, List.set_cons_succ]
    have hu : (Lit.int .u64 (tu : Int)).wf = true := wu64_lim (by omega) (by have h2 : tu < 18446744073709551616 := htu; omega)
    refine wpTill_op (i := 6) (by kernel_rfl) rfl (fun K hK => ?_)
    refine step_store_row rfl 40 _ _ rfl w.heap.size (Dc.cl d (.slice a2 xs.length cap2) (.slice (some ⟨g, 0, none⟩) ls.length scap)).toArray rfl rfl 40 dz0.toArray Hf.out.res size_Dec rfl (one_Dec _ _ _ _ _ _ _) ?_
    have hne : w.heap.size ≠ D := by have := Hf.out.hD; have := Hf.out.hR; have := Hf.out.hB; omega
    have hS2 : (fun w' : World => (∀ i : Nat, w'.cell? ⟨D, i, none⟩ = ((Dc.cl d (.slice a2 xs.length cap2) (.slice (some ⟨g, 0, none⟩) ls.length scap)).toArray : Array Value)[i]?)) (v6.setRow w.heap.size (Dc.cl d (.slice a2 xs.length cap2) (.slice (some ⟨g, 0, none⟩) ls.length scap)).toArray) := fun i => (World.cell?_of_block (a := ⟨D, i, none⟩) (setRow_other _ _ _ _ (by simp; omega))).trans (hS i)
    refine hK.out _ _ (fun _ => hS2) ?_
    clear hK K
    try simp only [List.getElem_toArray, List.getElem_cons_succ, List.getElem_cons_zero, Act.put, List.setIfInBounds_toArray, List.set_cons_zero, List.set_cons_succ]
    refine wpTill_op (i := 7) (by kernel_rfl) rfl (fun K hK => ?_)
    go_simp
    refine hK.out _ _ (fun _ => hS2) ?_
    clear hK K
    try simp only [List.getElem_toArray, List.getElem_cons_succ, List.getElem_cons_zero, Act.put, List.setIfInBounds_toArray, List.set_cons_zero, List.set_cons_succ]
    refine wpTill_done (by kernel_rfl) ?_ _
    go_wp2
    exact TgI.done Tryz.results22 Hf.out hbw HS.out h9 hu rfl rfl
end Go.Proofs.YtabdjimjelfbfaaGreat

/- Texts that FnFrame leans on, part 16. (Put together by wip/tools/bundle.py.) -/
import Derived.Test.YtabdjimjelfbfaaGreatFrame1
import Derived.Test.YtabdjimjelfbfaaGreatFrame2
import Derived.Test.YtabdjimjelfbfaaGreatFrame3
import Derived.Test.YtabdjimjelfbfaaGreatFrame4
import Derived.Test.YtabdjimjelfbfaaGreatFrame5
import Derived.Test.YtabdjimjelfbfaaGreatFrame6
import Derived.Test.YtabdjimjelfbfaaGreatFrame7
import Derived.Test.YtabdjimjelfbfaaGreatFrame8
import Derived.Test.YtabdjimjelfbfaaGreatFrame9
import Derived.Test.YtabdjimjelfbfaaGreatFrame10
import Derived.Test.YtabdjimjelfbfaaGreatFrame11
import Derived.Test.YtabdjimjelfbfaaGreatFrame12
import Derived.Test.YtabdjimjelfbfaaGreatFrame13
import Derived.Test.YtabdjimjelfbfaaGreatFrame14
import Derived.Test.YtabdjimjelfbfaaGreatFrame15
namespace Go.Proofs.YtabdjimjelfbfaaGreat
set_option linter.unusedSimpArgs false
set_option linter.unusedVariables false
open Go.ChangeShapes Go.WideShapes Go.ChangeAt Go.RowKit Go.BigFrame
def DrawnDU (w : World) (r : Ending) (w' : World) : Prop :=
 ∃ (d : Dc) (xs : List Shp) (ls : List Lvl) (a : Option Addr) (cap : Nat) (sa : Option Addr) (scap : Nat) (u : Int), r = .returned (.tuple #[d.val (.slice a xs.length cap) (.slice sa ls.length scap), .int .u64 u]) ∧ ShsC w' a xs ∧ Lvls w' sa ls ∧ (sa = none → scap = 0) ∧ SchB xs ∧ ls.length ≤ 9 ∧ (Lit.int .u64 u).wf = true ∧ Below w.heap.size w w'
theorem nine_u {w : World} {b k : Nat} {t : TypeId} {u : Int} (hu : WU64 u) (hk : k < 9) (hb : w.heap[b]? = some (.cells #[.int .u64 0, .int .u64 1, .int .u64 5, .int .u64 60, .int .u64 61, .int .u64 200, .int .u64 2000, .int .u64 2001, .int .u64 u] t (0, 0))) :
  ∃ v : Int, WU64 v ∧ w.cell? ⟨b, k, none⟩ = some (.int .u64 v) := by
 match k, hk with
 | 0, _ => exact ⟨_, by unfold WU64; decide, wu64_cell hb rfl⟩
 | 1, _ => exact ⟨_, by unfold WU64; decide, wu64_cell hb rfl⟩
 | 2, _ => exact ⟨_, by unfold WU64; decide, wu64_cell hb rfl⟩
 | 3, _ => exact ⟨_, by unfold WU64; decide, wu64_cell hb rfl⟩
 | 4, _ => exact ⟨_, by unfold WU64; decide, wu64_cell hb rfl⟩
 | 5, _ => exact ⟨_, by unfold WU64; decide, wu64_cell hb rfl⟩
 | 6, _ => exact ⟨_, by unfold WU64; decide, wu64_cell hb rfl⟩
 | 7, _ => exact ⟨_, by unfold WU64; decide, wu64_cell hb rfl⟩
 | 8, _ => exact ⟨_, hu, wu64_cell hb rfl⟩
set_option maxRecDepth 100000 in
set_option maxHeartbeats 8000000 in
theorem drawFrame_any (a : Option Addr) (cap n : Nat) (w : World) (h : Code w a n) (hn : n ≤ 1048576) : Calls Tryz.prog 15 #[.slice a n cap] w (DrawnDU w) := by
 go_enter Tryz.func15, Tryz.ntmps15
 go_wp2_with fail
 refine (l1New_any a cap n _ (h.keep bl) hn).mono ?_
 rintro r w1 ⟨B, rfl, hB, hc, hb1⟩
 simp only [World.size_alloc] at hB
 have hcl := hc.lt
 have hz1 := hb1.size
 simp only [World.size_alloc] at hz1
 have hR1 := Lib.hid ((hb1.block w.heap.size (by simp)).trans (hset_new (o := .cells dz0.toArray 40) rfl))
 have hbw1 : Below w.heap.size w w1 := ((Below.refl _ _).alloc (Nat.le_refl _) _).trans (hb1.mono (by simp))
 clear hb1
 go_upto_region 2 with fail
 refine wp_region_till (fun _ => True) (fun _ => false) (by kernel_rfl) ?_
 have hS : True := trivial
 refine tk (i := 0) hS ?_
 refine tk (i := 2) hS ?_
 refine tk (i := 5) hS ?_
 refine wpTill_op (i := 1) (by kernel_rfl) rfl (fun K hK => ?_)
 go_simp
 refine (l15Draw_any B w1.drew (hc.below (Below.refl _ _).drew)).mono ?_
 rintro r w2 ⟨d, xs, ls, a2, cap2, rs, sa, scap, rfl, ho, hl, hs, h8, hu⟩
 have hcld : B < w1.drew.heap.size := hcl
 have HU := Lib.hid (show Up B w1 w2 from ⟨hu.cur, Oth.undrew hu.oth⟩)
 have HO := Lib.hid (show OwnShs w2 w1.heap.size 77 34 (.slice a2 xs.length cap2) xs.length rs xs from ho); have HL := Lib.hid (show w2.ownsRow w1.heap.size 67 2 (.slice sa ls.length scap) ls.length (ls.flatMap Lvl.cs) from hl); have HS := Lib.hid hs; clear ho hl hs hu
 have HR := Lib.hid ((HU.out.oth.block (b := w.heap.size) (by omega) (by omega)).trans hR1.out)
 clear hR1 hcld
 refine hK.out _ _ (fun _ => trivial) ?_
 clear hK K
 try simp only [List.getElem_toArray, List.getElem_cons_succ, List.getElem_cons_zero, Act.put, List.setIfInBounds_toArray, List.set_cons_zero, List.set_cons_succ]
 refine wpTill_op (i := 3) (by kernel_rfl) rfl (fun K hK => ?_)
 go_simp
 refine (l1Wide_any B _ HU.out.cur).mono ?_
 rintro r w3 ⟨u, rfl, hu, hcq, hoq⟩
 have HU_ := Lib.hid (HU.out.step hcq hoq); have HO_ := Lib.hid (HO.out.oth hoq hcl); have HL_ := Lib.hid (owns_oth HL.out hoq hcl); have HR_ := Lib.hid ((hoq.block (b := w.heap.size) (by have := HU.out.oth.size; omega) (by omega)).trans HR.out)
 clear HU HO HL HR; have HU := HU_; have HO := HO_; have HL := HL_; have HR := HR_; clear HU_ HO_ HL_ HR_
 clear hcq hoq
 refine hK.out _ _ (fun _ => trivial) ?_
 clear hK K
 try simp only [List.getElem_toArray, List.getElem_cons_succ, List.getElem_cons_zero, Act.put, List.setIfInBounds_toArray, List.set_cons_zero, List.set_cons_succ]
 have hsz : w1.heap.size ≤ w3.heap.size := HU.out.oth.size
 refine wpTill_two (i := 4) (j := 6) (by kernel_rfl) rfl rfl (fun K hK => ?_) (fun K hK => ?_)
 ·skip
  go_simp
  have hal : Below w3.heap.size w3 (w3.alloc (.cells #[.int .u64 0, .int .u64 1, .int .u64 5, .int .u64 60, .int .u64 61, .int .u64 200, .int .u64 2000, .int .u64 2001, .int .u64 u] 30)) := (Below.refl _ _).alloc (Nat.le_refl _) _
  have hG_ : (w3.alloc (.cells #[.int .u64 0, .int .u64 1, .int .u64 5, .int .u64 60, .int .u64 61, .int .u64 200, .int .u64 2000, .int .u64 2001, .int .u64 u] 30)).heap[w3.heap.size]? = some (.cells #[.int .u64 0, .int .u64 1, .int .u64 5, .int .u64 60, .int .u64 61, .int .u64 200, .int .u64 2000, .int .u64 2001, .int .u64 u] 30 (0, 0)) := hset_new rfl
  have HU_ := Lib.hid (HU.out.below hcl hal HU.out.oth.size); have HO_ := Lib.hid (HO.out.alloc (.cells #[.int .u64 0, .int .u64 1, .int .u64 5, .int .u64 60, .int .u64 61, .int .u64 200, .int .u64 2000, .int .u64 2001, .int .u64 u] 30)); have HL_ := Lib.hid (World.ownsRow.alloc HL.out (.cells #[.int .u64 0, .int .u64 1, .int .u64 5, .int .u64 60, .int .u64 61, .int .u64 200, .int .u64 2000, .int .u64 2001, .int .u64 u] 30)); have HR_ := Lib.hid (hset_alloc (o := .cells #[.int .u64 0, .int .u64 1, .int .u64 5, .int .u64 60, .int .u64 61, .int .u64 200, .int .u64 2000, .int .u64 2001, .int .u64 u] 30) HR.out)
  clear HU HO HL HR; have HU := HU_; have HO := HO_; have HL := HL_; have HR := HR_; clear HU_ HO_ HL_ HR_
  have hGw : w1.heap.size ≤ w3.heap.size := by have h0 := hsz; exact h0
  obtain ⟨w4, hw_⟩ : ∃ q, w3.alloc (.cells #[.int .u64 0, .int .u64 1, .int .u64 5, .int .u64 60, .int .u64 61, .int .u64 200, .int .u64 2000, .int .u64 2001, .int .u64 u] 30) = q := ⟨_, rfl⟩
  have hsz_ : w1.heap.size ≤ w4.heap.size := by rw [← hw_]; simp; omega
  rw [hw_] at HU HO HL HR hG_ ⊢
  clear hw_ hal hsz; have hsz := hsz_; clear hsz_
  obtain ⟨G, hGe⟩ : ∃ q, w3.heap.size = q := ⟨_, rfl⟩
  rw [hGe] at hG_ hGw
  try simp only [hGe]
  clear hGe
  have HG := Lib.hid hG_; clear hG_
  refine hK.out _ _ (fun _ => trivial) ?_
  clear hK K
  try simp only [List.getElem_toArray, List.getElem_cons_succ, List.getElem_cons_zero, Act.put, List.setIfInBounds_toArray, List.set_cons_zero, List.set_cons_succ]
  refine wpTill_op (i := 6) (by kernel_rfl) rfl (fun K hK => ?_)
  go_simp
  refine (l1Below_any B 9 _ HU.out.cur (by omega) (by omega)).mono ?_
  rintro r w5 ⟨k, rfl, hk0, hk1, hcq, hoq⟩
  obtain ⟨k, rfl⟩ := Int.eq_ofNat_of_zero_le hk0
  have HG_ := Lib.hid ((hoq.block (b := G) (box_lt HG.out) (by omega)).trans HG.out); clear HG; have HG := HG_; clear HG_
  have HU_ := Lib.hid (HU.out.step hcq hoq); have HO_ := Lib.hid (HO.out.oth hoq hcl); have HL_ := Lib.hid (owns_oth HL.out hoq hcl); have HR_ := Lib.hid ((hoq.block (b := w.heap.size) (by have := HU.out.oth.size; omega) (by omega)).trans HR.out)
  clear HU HO HL HR; have HU := HU_; have HO := HO_; have HL := HL_; have HR := HR_; clear HU_ HO_ HL_ HR_
  have hsz_ := Nat.le_trans hsz hoq.size; clear hsz; have hsz := hsz_; clear hsz_ hcq hoq
  refine hK.out _ _ (fun _ => trivial) ?_
  clear hK K
  try simp only [List.getElem_toArray, List.getElem_cons_succ, List.getElem_cons_zero, Act.put, List.setIfInBounds_toArray, List.set_cons_zero, List.set_cons_succ]
  refine wpTill_two (i := 7) (j := 9) (by kernel_rfl) rfl rfl (fun K hK => ?_) (fun K hK => ?_)
  ·skip
   have hk9 : (k : Int) < 9 := by omega
   go_simp
   clear hk9
   refine hK.out _ _ (fun _ => trivial) ?_
   clear hK K
   try simp only [List.getElem_toArray, List.getElem_cons_succ, List.getElem_cons_zero, Act.put, List.setIfInBounds_toArray, List.set_cons_zero, List.set_cons_succ]
   refine wpTill_two (i := 8) (j := 9) (by kernel_rfl) rfl rfl (fun K hK => ?_) (fun K hK => ?_)
   ·skip
    obtain ⟨v, hv, hcv⟩ := nine_u hu (by omega : k < 9) HG.out
    go_simp
    clear hcv
    refine hK.out _ _ (fun _ => trivial) ?_
    clear hK K
    try simp only [List.getElem_toArray, List.getElem_cons_succ, List.getElem_cons_zero, Act.put, List.setIfInBounds_toArray, List.set_cons_zero, List.set_cons_succ]
    refine wpTill_op (i := 9) (by kernel_rfl) rfl (fun K hK => ?_)
    refine step_store_row rfl 40 _ _ rfl w.heap.size (Dc.cl d (.slice a2 xs.length cap2) (.slice sa ls.length scap)).toArray rfl rfl 40 dz0.toArray HR.out size_Dec rfl (one_Dec _ _ _ _ _ _ _) ?_
    have HO_ := Lib.hid (HO.out.setRow (show w.heap.size < w1.heap.size by omega) (Dc.cl d (.slice a2 xs.length cap2) (.slice sa ls.length scap)).toArray); have HL_ := Lib.hid (owns_setRow HL.out (show w.heap.size < w1.heap.size by omega) (Dc.cl d (.slice a2 xs.length cap2) (.slice sa ls.length scap)).toArray); have HRd := Lib.hid (hset_row (cs' := (Dc.cl d (.slice a2 xs.length cap2) (.slice sa ls.length scap)).toArray) HR.out)
    have hbs : Below w.heap.size w (w5.setRow w.heap.size (Dc.cl d (.slice a2 xs.length cap2) (.slice sa ls.length scap)).toArray) := below_setRow (hbw1.trans ((HU.out.oth.below (n := w.heap.size) (by omega) hcl))) (Nat.le_refl _) _
    have HG_ := Lib.hid (hset_row_other (b := w.heap.size) (cs := (Dc.cl d (.slice a2 xs.length cap2) (.slice sa ls.length scap)).toArray) HG.out (by omega)); clear HG; have HG := HG_; clear HG_
    have hsz_ : w1.heap.size ≤ (w5.setRow w.heap.size (Dc.cl d (.slice a2 xs.length cap2) (.slice sa ls.length scap)).toArray).heap.size := by rw [size_setRow]; exact hsz
    obtain ⟨w6, hw_⟩ : ∃ q, w5.setRow w.heap.size (Dc.cl d (.slice a2 xs.length cap2) (.slice sa ls.length scap)).toArray = q := ⟨_, rfl⟩
    rw [hw_] at HO_ HL_ HRd hbs hsz_ ⊢
    clear HO HL HR HU hsz; have HO := HO_; have HL := HL_; have hsz := hsz_; clear HO_ HL_ hsz_
    rw [hw_] at HG
    clear hw_
    refine hK.out _ _ (fun _ => trivial) ?_
    clear hK K
    try simp only [List.getElem_toArray, List.getElem_cons_succ, List.getElem_cons_zero, Act.put, List.setIfInBounds_toArray, List.set_cons_zero, List.set_cons_succ]
    refine wpTill_op (i := 10) (by kernel_rfl) rfl (fun K hK => ?_)
    go_simp
    refine hK.out _ _ (fun _ => trivial) ?_
    clear hK K
    try simp only [List.getElem_toArray, List.getElem_cons_succ, List.getElem_cons_zero, Act.put, List.setIfInBounds_toArray, List.set_cons_zero, List.set_cons_succ]
    refine wpTill_done (by kernel_rfl) ?_ _
    go_wp2
    have hnil := own_nilc2 HL.out
    refine bodyPost_ret (results_cell_tmp Tryz.results15 rfl rfl (run_loadVar_mid _ w.heap.size 0 40 (Dc.cl d (.slice a2 xs.length cap2) (.slice sa ls.length scap)) _ (range_of_box (t := 40) HRd.out) Tryz.underlying40 rfl size_Dec)) rfl ⟨d, xs, ls, a2, cap2, sa, scap, _, rfl, HO.out.shsC, lvls_of_own HL.out rfl, fun e => (hnil e).2, HS.out, h8, hv, hbs⟩
   ·skip
    refine step_store_row rfl 40 _ _ rfl w.heap.size (Dc.cl d (.slice a2 xs.length cap2) (.slice sa ls.length scap)).toArray rfl rfl 40 dz0.toArray HR.out size_Dec rfl (one_Dec _ _ _ _ _ _ _) ?_
    have HO_ := Lib.hid (HO.out.setRow (show w.heap.size < w1.heap.size by omega) (Dc.cl d (.slice a2 xs.length cap2) (.slice sa ls.length scap)).toArray); have HL_ := Lib.hid (owns_setRow HL.out (show w.heap.size < w1.heap.size by omega) (Dc.cl d (.slice a2 xs.length cap2) (.slice sa ls.length scap)).toArray); have HRd := Lib.hid (hset_row (cs' := (Dc.cl d (.slice a2 xs.length cap2) (.slice sa ls.length scap)).toArray) HR.out)
    have hbs : Below w.heap.size w (w5.setRow w.heap.size (Dc.cl d (.slice a2 xs.length cap2) (.slice sa ls.length scap)).toArray) := below_setRow (hbw1.trans ((HU.out.oth.below (n := w.heap.size) (by omega) hcl))) (Nat.le_refl _) _
    have HG_ := Lib.hid (hset_row_other (b := w.heap.size) (cs := (Dc.cl d (.slice a2 xs.length cap2) (.slice sa ls.length scap)).toArray) HG.out (by omega)); clear HG; have HG := HG_; clear HG_
    have hsz_ : w1.heap.size ≤ (w5.setRow w.heap.size (Dc.cl d (.slice a2 xs.length cap2) (.slice sa ls.length scap)).toArray).heap.size := by rw [size_setRow]; exact hsz
    obtain ⟨w7, hw_⟩ : ∃ q, w5.setRow w.heap.size (Dc.cl d (.slice a2 xs.length cap2) (.slice sa ls.length scap)).toArray = q := ⟨_, rfl⟩
    rw [hw_] at HO_ HL_ HRd hbs hsz_ ⊢
    clear HO HL HR HU hsz; have HO := HO_; have HL := HL_; have hsz := hsz_; clear HO_ HL_ hsz_
    rw [hw_] at HG
    clear hw_
    refine hK.out _ _ (fun _ => trivial) ?_
    clear hK K
    try simp only [List.getElem_toArray, List.getElem_cons_succ, List.getElem_cons_zero, Act.put, List.setIfInBounds_toArray, List.set_cons_zero, List.set_cons_succ]
    refine wpTill_op (i := 8) (by kernel_rfl) rfl (fun K hK => ?_)
    obtain ⟨v, hv, hcv⟩ := nine_u hu (by omega : k < 9) HG.out
    go_simp
    clear hcv
    refine hK.out _ _ (fun _ => trivial) ?_
    clear hK K
    try simp only [List.getElem_toArray, List.getElem_cons_succ, List.getElem_cons_zero, Act.put, List.setIfInBounds_toArray, List.set_cons_zero, List.set_cons_succ]
    refine wpTill_op (i := 10) (by kernel_rfl) rfl (fun K hK => ?_)
    go_simp
    refine hK.out _ _ (fun _ => trivial) ?_
    clear hK K
    try simp only [List.getElem_toArray, List.getElem_cons_succ, List.getElem_cons_zero, Act.put, List.setIfInBounds_toArray, List.set_cons_zero, List.set_cons_succ]
    refine wpTill_done (by kernel_rfl) ?_ _
    go_wp2
    have hnil := own_nilc2 HL.out
    refine bodyPost_ret (results_cell_tmp Tryz.results15 rfl rfl (run_loadVar_mid _ w.heap.size 0 40 (Dc.cl d (.slice a2 xs.length cap2) (.slice sa ls.length scap)) _ (range_of_box (t := 40) HRd.out) Tryz.underlying40 rfl size_Dec)) rfl ⟨d, xs, ls, a2, cap2, sa, scap, _, rfl, HO.out.shsC, lvls_of_own HL.out rfl, fun e => (hnil e).2, HS.out, h8, hv, hbs⟩
  ·skip
   refine step_store_row rfl 40 _ _ rfl w.heap.size (Dc.cl d (.slice a2 xs.length cap2) (.slice sa ls.length scap)).toArray rfl rfl 40 dz0.toArray HR.out size_Dec rfl (one_Dec _ _ _ _ _ _ _) ?_
   have HO_ := Lib.hid (HO.out.setRow (show w.heap.size < w1.heap.size by omega) (Dc.cl d (.slice a2 xs.length cap2) (.slice sa ls.length scap)).toArray); have HL_ := Lib.hid (owns_setRow HL.out (show w.heap.size < w1.heap.size by omega) (Dc.cl d (.slice a2 xs.length cap2) (.slice sa ls.length scap)).toArray); have HRd := Lib.hid (hset_row (cs' := (Dc.cl d (.slice a2 xs.length cap2) (.slice sa ls.length scap)).toArray) HR.out)
   have hbs : Below w.heap.size w (w5.setRow w.heap.size (Dc.cl d (.slice a2 xs.length cap2) (.slice sa ls.length scap)).toArray) := below_setRow (hbw1.trans ((HU.out.oth.below (n := w.heap.size) (by omega) hcl))) (Nat.le_refl _) _
   have HG_ := Lib.hid (hset_row_other (b := w.heap.size) (cs := (Dc.cl d (.slice a2 xs.length cap2) (.slice sa ls.length scap)).toArray) HG.out (by omega)); clear HG; have HG := HG_; clear HG_
   have hsz_ : w1.heap.size ≤ (w5.setRow w.heap.size (Dc.cl d (.slice a2 xs.length cap2) (.slice sa ls.length scap)).toArray).heap.size := by rw [size_setRow]; exact hsz
   obtain ⟨w8, hw_⟩ : ∃ q, w5.setRow w.heap.size (Dc.cl d (.slice a2 xs.length cap2) (.slice sa ls.length scap)).toArray = q := ⟨_, rfl⟩
   rw [hw_] at HO_ HL_ HRd hbs hsz_ ⊢
   clear HO HL HR HU hsz; have HO := HO_; have HL := HL_; have hsz := hsz_; clear HO_ HL_ hsz_
   rw [hw_] at HG
   clear hw_
   refine hK.out _ _ (fun _ => trivial) ?_
   clear hK K
   try simp only [List.getElem_toArray, List.getElem_cons_succ, List.getElem_cons_zero, Act.put, List.setIfInBounds_toArray, List.set_cons_zero, List.set_cons_succ]
   refine wpTill_op (i := 7) (by kernel_rfl) rfl (fun K hK => ?_)
   have hk9 : (k : Int) < 9 := by omega
   go_simp
   clear hk9
   refine hK.out _ _ (fun _ => trivial) ?_
   clear hK K
   try simp only [List.getElem_toArray, List.getElem_cons_succ, List.getElem_cons_zero, Act.put, List.setIfInBounds_toArray, List.set_cons_zero, List.set_cons_succ]
   refine wpTill_op (i := 8) (by kernel_rfl) rfl (fun K hK => ?_)
   obtain ⟨v, hv, hcv⟩ := nine_u hu (by omega : k < 9) HG.out
   go_simp
   clear hcv
   refine hK.out _ _ (fun _ => trivial) ?_
   clear hK K
   try simp only [List.getElem_toArray, List.getElem_cons_succ, List.getElem_cons_zero, Act.put, List.setIfInBounds_toArray, List.set_cons_zero, List.set_cons_succ]
   refine wpTill_op (i := 10) (by kernel_rfl) rfl (fun K hK => ?_)
   go_simp
   refine hK.out _ _ (fun _ => trivial) ?_
   clear hK K
   try simp only [List.getElem_toArray, List.getElem_cons_succ, List.getElem_cons_zero, Act.put, List.setIfInBounds_toArray, List.set_cons_zero, List.set_cons_succ]
   refine wpTill_done (by kernel_rfl) ?_ _
   go_wp2
   have hnil := own_nilc2 HL.out
   refine bodyPost_ret (results_cell_tmp Tryz.results15 rfl rfl (run_loadVar_mid _ w.heap.size 0 40 (Dc.cl d (.slice a2 xs.length cap2) (.slice sa ls.length scap)) _ (range_of_box (t := 40) HRd.out) Tryz.underlying40 rfl size_Dec)) rfl ⟨d, xs, ls, a2, cap2, sa, scap, _, rfl, HO.out.shsC, lvls_of_own HL.out rfl, fun e => (hnil e).2, HS.out, h8, hv, hbs⟩
 ·skip
  go_simp
  refine (l1Below_any B 9 _ HU.out.cur (by omega) (by omega)).mono ?_
  rintro r w9 ⟨k, rfl, hk0, hk1, hcq, hoq⟩
  obtain ⟨k, rfl⟩ := Int.eq_ofNat_of_zero_le hk0
  have HU_ := Lib.hid (HU.out.step hcq hoq); have HO_ := Lib.hid (HO.out.oth hoq hcl); have HL_ := Lib.hid (owns_oth HL.out hoq hcl); have HR_ := Lib.hid ((hoq.block (b := w.heap.size) (by have := HU.out.oth.size; omega) (by omega)).trans HR.out)
  clear HU HO HL HR; have HU := HU_; have HO := HO_; have HL := HL_; have HR := HR_; clear HU_ HO_ HL_ HR_
  have hsz_ := Nat.le_trans hsz hoq.size; clear hsz; have hsz := hsz_; clear hsz_ hcq hoq
  refine hK.out _ _ (fun _ => trivial) ?_
  clear hK K
  try simp only [List.getElem_toArray, List.getElem_cons_succ, List.getElem_cons_zero, Act.put, List.setIfInBounds_toArray, List.set_cons_zero, List.set_cons_succ]
  refine wpTill_two (i := 4) (j := 9) (by kernel_rfl) rfl rfl (fun K hK => ?_) (fun K hK => ?_)
  ·skip
   go_simp
   have hal : Below w9.heap.size w9 (w9.alloc (.cells #[.int .u64 0, .int .u64 1, .int .u64 5, .int .u64 60, .int .u64 61, .int .u64 200, .int .u64 2000, .int .u64 2001, .int .u64 u] 30)) := (Below.refl _ _).alloc (Nat.le_refl _) _
   have hG_ : (w9.alloc (.cells #[.int .u64 0, .int .u64 1, .int .u64 5, .int .u64 60, .int .u64 61, .int .u64 200, .int .u64 2000, .int .u64 2001, .int .u64 u] 30)).heap[w9.heap.size]? = some (.cells #[.int .u64 0, .int .u64 1, .int .u64 5, .int .u64 60, .int .u64 61, .int .u64 200, .int .u64 2000, .int .u64 2001, .int .u64 u] 30 (0, 0)) := hset_new rfl
   have HU_ := Lib.hid (HU.out.below hcl hal HU.out.oth.size); have HO_ := Lib.hid (HO.out.alloc (.cells #[.int .u64 0, .int .u64 1, .int .u64 5, .int .u64 60, .int .u64 61, .int .u64 200, .int .u64 2000, .int .u64 2001, .int .u64 u] 30)); have HL_ := Lib.hid (World.ownsRow.alloc HL.out (.cells #[.int .u64 0, .int .u64 1, .int .u64 5, .int .u64 60, .int .u64 61, .int .u64 200, .int .u64 2000, .int .u64 2001, .int .u64 u] 30)); have HR_ := Lib.hid (hset_alloc (o := .cells #[.int .u64 0, .int .u64 1, .int .u64 5, .int .u64 60, .int .u64 61, .int .u64 200, .int .u64 2000, .int .u64 2001, .int .u64 u] 30) HR.out)
   clear HU HO HL HR; have HU := HU_; have HO := HO_; have HL := HL_; have HR := HR_; clear HU_ HO_ HL_ HR_
   have hGw : w1.heap.size ≤ w9.heap.size := by have h0 := hsz; exact h0
   obtain ⟨w10, hw_⟩ : ∃ q, w9.alloc (.cells #[.int .u64 0, .int .u64 1, .int .u64 5, .int .u64 60, .int .u64 61, .int .u64 200, .int .u64 2000, .int .u64 2001, .int .u64 u] 30) = q := ⟨_, rfl⟩
   have hsz_ : w1.heap.size ≤ w10.heap.size := by rw [← hw_]; simp; omega
   rw [hw_] at HU HO HL HR hG_ ⊢
   clear hw_ hal hsz; have hsz := hsz_; clear hsz_
   obtain ⟨G, hGe⟩ : ∃ q, w9.heap.size = q := ⟨_, rfl⟩
   rw [hGe] at hG_ hGw
   try simp only [hGe]
   clear hGe
   have HG := Lib.hid hG_; clear hG_
   refine hK.out _ _ (fun _ => trivial) ?_
   clear hK K
   try simp only [List.getElem_toArray, List.getElem_cons_succ, List.getElem_cons_zero, Act.put, List.setIfInBounds_toArray, List.set_cons_zero, List.set_cons_succ]
   refine wpTill_two (i := 7) (j := 9) (by kernel_rfl) rfl rfl (fun K hK => ?_) (fun K hK => ?_)
   ·skip
    have hk9 : (k : Int) < 9 := by omega
    go_simp
    clear hk9
    refine hK.out _ _ (fun _ => trivial) ?_
    clear hK K
    try simp only [List.getElem_toArray, List.getElem_cons_succ, List.getElem_cons_zero, Act.put, List.setIfInBounds_toArray, List.set_cons_zero, List.set_cons_succ]
    refine wpTill_two (i := 8) (j := 9) (by kernel_rfl) rfl rfl (fun K hK => ?_) (fun K hK => ?_)
    ·skip
     obtain ⟨v, hv, hcv⟩ := nine_u hu (by omega : k < 9) HG.out
     go_simp
     clear hcv
     refine hK.out _ _ (fun _ => trivial) ?_
     clear hK K
     try simp only [List.getElem_toArray, List.getElem_cons_succ, List.getElem_cons_zero, Act.put, List.setIfInBounds_toArray, List.set_cons_zero, List.set_cons_succ]
     refine wpTill_op (i := 9) (by kernel_rfl) rfl (fun K hK => ?_)
     refine step_store_row rfl 40 _ _ rfl w.heap.size (Dc.cl d (.slice a2 xs.length cap2) (.slice sa ls.length scap)).toArray rfl rfl 40 dz0.toArray HR.out size_Dec rfl (one_Dec _ _ _ _ _ _ _) ?_
     have HO_ := Lib.hid (HO.out.setRow (show w.heap.size < w1.heap.size by omega) (Dc.cl d (.slice a2 xs.length cap2) (.slice sa ls.length scap)).toArray); have HL_ := Lib.hid (owns_setRow HL.out (show w.heap.size < w1.heap.size by omega) (Dc.cl d (.slice a2 xs.length cap2) (.slice sa ls.length scap)).toArray); have HRd := Lib.hid (hset_row (cs' := (Dc.cl d (.slice a2 xs.length cap2) (.slice sa ls.length scap)).toArray) HR.out)
     have hbs : Below w.heap.size w (w10.setRow w.heap.size (Dc.cl d (.slice a2 xs.length cap2) (.slice sa ls.length scap)).toArray) := below_setRow (hbw1.trans ((HU.out.oth.below (n := w.heap.size) (by omega) hcl))) (Nat.le_refl _) _
     have HG_ := Lib.hid (hset_row_other (b := w.heap.size) (cs := (Dc.cl d (.slice a2 xs.length cap2) (.slice sa ls.length scap)).toArray) HG.out (by omega)); clear HG; have HG := HG_; clear HG_
     have hsz_ : w1.heap.size ≤ (w10.setRow w.heap.size (Dc.cl d (.slice a2 xs.length cap2) (.slice sa ls.length scap)).toArray).heap.size := by rw [size_setRow]; exact hsz
     obtain ⟨w11, hw_⟩ : ∃ q, w10.setRow w.heap.size (Dc.cl d (.slice a2 xs.length cap2) (.slice sa ls.length scap)).toArray = q := ⟨_, rfl⟩
     rw [hw_] at HO_ HL_ HRd hbs hsz_ ⊢
     clear HO HL HR HU hsz; have HO := HO_; have HL := HL_; have hsz := hsz_; clear HO_ HL_ hsz_
     rw [hw_] at HG
     clear hw_
     refine hK.out _ _ (fun _ => trivial) ?_
     clear hK K
     try simp only [List.getElem_toArray, List.getElem_cons_succ, List.getElem_cons_zero, Act.put, List.setIfInBounds_toArray, List.set_cons_zero, List.set_cons_succ]
     refine wpTill_op (i := 10) (by kernel_rfl) rfl (fun K hK => ?_)
     go_simp
     refine hK.out _ _ (fun _ => trivial) ?_
     clear hK K
     try simp only [List.getElem_toArray, List.getElem_cons_succ, List.getElem_cons_zero, Act.put, List.setIfInBounds_toArray, List.set_cons_zero, List.set_cons_succ]
     refine wpTill_done (by kernel_rfl) ?_ _
     go_wp2
     have hnil := own_nilc2 HL.out
     refine bodyPost_ret (results_cell_tmp Tryz.results15 rfl rfl (run_loadVar_mid _ w.heap.size 0 40 (Dc.cl d (.slice a2 xs.length cap2) (.slice sa ls.length scap)) _ (range_of_box (t := 40) HRd.out) Tryz.underlying40 rfl size_Dec)) rfl ⟨d, xs, ls, a2, cap2, sa, scap, _, rfl, HO.out.shsC, lvls_of_own HL.out rfl, fun e => (hnil e).2, HS.out, h8, hv, hbs⟩
    ·skip
     refine step_store_row rfl 40 _ _ rfl w.heap.size (Dc.cl d (.slice a2 xs.length cap2) (.slice sa ls.length scap)).toArray rfl rfl 40 dz0.toArray HR.out size_Dec rfl (one_Dec _ _ _ _ _ _ _) ?_
     have HO_ := Lib.hid (HO.out.setRow (show w.heap.size < w1.heap.size by omega) (Dc.cl d (.slice a2 xs.length cap2) (.slice sa ls.length scap)).toArray); have HL_ := Lib.hid (owns_setRow HL.out (show w.heap.size < w1.heap.size by omega) (Dc.cl d (.slice a2 xs.length cap2) (.slice sa ls.length scap)).toArray); have HRd := Lib.hid (hset_row (cs' := (Dc.cl d (.slice a2 xs.length cap2) (.slice sa ls.length scap)).toArray) HR.out)
     have hbs : Below w.heap.size w (w10.setRow w.heap.size (Dc.cl d (.slice a2 xs.length cap2) (.slice sa ls.length scap)).toArray) := below_setRow (hbw1.trans ((HU.out.oth.below (n := w.heap.size) (by omega) hcl))) (Nat.le_refl _) _
     have HG_ := Lib.hid (hset_row_other (b := w.heap.size) (cs := (Dc.cl d (.slice a2 xs.length cap2) (.slice sa ls.length scap)).toArray) HG.out (by omega)); clear HG; have HG := HG_; clear HG_
     have hsz_ : w1.heap.size ≤ (w10.setRow w.heap.size (Dc.cl d (.slice a2 xs.length cap2) (.slice sa ls.length scap)).toArray).heap.size := by rw [size_setRow]; exact hsz
     obtain ⟨w12, hw_⟩ : ∃ q, w10.setRow w.heap.size (Dc.cl d (.slice a2 xs.length cap2) (.slice sa ls.length scap)).toArray = q := ⟨_, rfl⟩
     rw [hw_] at HO_ HL_ HRd hbs hsz_ ⊢
     clear HO HL HR HU hsz; have HO := HO_; have HL := HL_; have hsz := hsz_; clear HO_ HL_ hsz_
     rw [hw_] at HG
     clear hw_
     refine hK.out _ _ (fun _ => trivial) ?_
     clear hK K
     try simp only [List.getElem_toArray, List.getElem_cons_succ, List.getElem_cons_zero, Act.put, List.setIfInBounds_toArray, List.set_cons_zero, List.set_cons_succ]
     refine wpTill_op (i := 8) (by kernel_rfl) rfl (fun K hK => ?_)
     obtain ⟨v, hv, hcv⟩ := nine_u hu (by omega : k < 9) HG.out
     go_simp
     clear hcv
     refine hK.out _ _ (fun _ => trivial) ?_
     clear hK K
     try simp only [List.getElem_toArray, List.getElem_cons_succ, List.getElem_cons_zero, Act.put, List.setIfInBounds_toArray, List.set_cons_zero, List.set_cons_succ]
     refine wpTill_op (i := 10) (by kernel_rfl) rfl (fun K hK => ?_)
     go_simp
     refine hK.out _ _ (fun _ => trivial) ?_
     clear hK K
     try simp only [List.getElem_toArray, List.getElem_cons_succ, List.getElem_cons_zero, Act.put, List.setIfInBounds_toArray, List.set_cons_zero, List.set_cons_succ]
     refine wpTill_done (by kernel_rfl) ?_ _
     go_wp2
     have hnil := own_nilc2 HL.out
     refine bodyPost_ret (results_cell_tmp Tryz.results15 rfl rfl (run_loadVar_mid _ w.heap.size 0 40 (Dc.cl d (.slice a2 xs.length cap2) (.slice sa ls.length scap)) _ (range_of_box (t := 40) HRd.out) Tryz.underlying40 rfl size_Dec)) rfl ⟨d, xs, ls, a2, cap2, sa, scap, _, rfl, HO.out.shsC, lvls_of_own HL.out rfl, fun e => (hnil e).2, HS.out, h8, hv, hbs⟩
   ·skip
    refine step_store_row rfl 40 _ _ rfl w.heap.size (Dc.cl d (.slice a2 xs.length cap2) (.slice sa ls.length scap)).toArray rfl rfl 40 dz0.toArray HR.out size_Dec rfl (one_Dec _ _ _ _ _ _ _) ?_
    have HO_ := Lib.hid (HO.out.setRow (show w.heap.size < w1.heap.size by omega) (Dc.cl d (.slice a2 xs.length cap2) (.slice sa ls.length scap)).toArray); have HL_ := Lib.hid (owns_setRow HL.out (show w.heap.size < w1.heap.size by omega) (Dc.cl d (.slice a2 xs.length cap2) (.slice sa ls.length scap)).toArray); have HRd := Lib.hid (hset_row (cs' := (Dc.cl d (.slice a2 xs.length cap2) (.slice sa ls.length scap)).toArray) HR.out)
    have hbs : Below w.heap.size w (w10.setRow w.heap.size (Dc.cl d (.slice a2 xs.length cap2) (.slice sa ls.length scap)).toArray) := below_setRow (hbw1.trans ((HU.out.oth.below (n := w.heap.size) (by omega) hcl))) (Nat.le_refl _) _
    have HG_ := Lib.hid (hset_row_other (b := w.heap.size) (cs := (Dc.cl d (.slice a2 xs.length cap2) (.slice sa ls.length scap)).toArray) HG.out (by omega)); clear HG; have HG := HG_; clear HG_
    have hsz_ : w1.heap.size ≤ (w10.setRow w.heap.size (Dc.cl d (.slice a2 xs.length cap2) (.slice sa ls.length scap)).toArray).heap.size := by rw [size_setRow]; exact hsz
    obtain ⟨w13, hw_⟩ : ∃ q, w10.setRow w.heap.size (Dc.cl d (.slice a2 xs.length cap2) (.slice sa ls.length scap)).toArray = q := ⟨_, rfl⟩
    rw [hw_] at HO_ HL_ HRd hbs hsz_ ⊢
    clear HO HL HR HU hsz; have HO := HO_; have HL := HL_; have hsz := hsz_; clear HO_ HL_ hsz_
    rw [hw_] at HG
    clear hw_
    refine hK.out _ _ (fun _ => trivial) ?_
    clear hK K
    try simp only [List.getElem_toArray, List.getElem_cons_succ, List.getElem_cons_zero, Act.put, List.setIfInBounds_toArray, List.set_cons_zero, List.set_cons_succ]
    refine wpTill_op (i := 7) (by kernel_rfl) rfl (fun K hK => ?_)
    have hk9 : (k : Int) < 9 := by omega
    go_simp
    clear hk9
    refine hK.out _ _ (fun _ => trivial) ?_
    clear hK K
    try simp only [List.getElem_toArray, List.getElem_cons_succ, List.getElem_cons_zero, Act.put, List.setIfInBounds_toArray, List.set_cons_zero, List.set_cons_succ]
    refine wpTill_op (i := 8) (by kernel_rfl) rfl (fun K hK => ?_)
    obtain ⟨v, hv, hcv⟩ := nine_u hu (by omega : k < 9) HG.out
    go_simp
    clear hcv
    refine hK.out _ _ (fun _ => trivial) ?_
    clear hK K
    try simp only [List.getElem_toArray, List.getElem_cons_succ, List.getElem_cons_zero, Act.put, List.setIfInBounds_toArray, List.set_cons_zero, List.set_cons_succ]
    refine wpTill_op (i := 10) (by kernel_rfl) rfl (fun K hK => ?_)
    go_simp
    refine hK.out _ _ (fun _ => trivial) ?_
    clear hK K
    try simp only [List.getElem_toArray, List.getElem_cons_succ, List.getElem_cons_zero, Act.put, List.setIfInBounds_toArray, List.set_cons_zero, List.set_cons_succ]
    refine wpTill_done (by kernel_rfl) ?_ _
    go_wp2
    have hnil := own_nilc2 HL.out
    refine bodyPost_ret (results_cell_tmp Tryz.results15 rfl rfl (run_loadVar_mid _ w.heap.size 0 40 (Dc.cl d (.slice a2 xs.length cap2) (.slice sa ls.length scap)) _ (range_of_box (t := 40) HRd.out) Tryz.underlying40 rfl size_Dec)) rfl ⟨d, xs, ls, a2, cap2, sa, scap, _, rfl, HO.out.shsC, lvls_of_own HL.out rfl, fun e => (hnil e).2, HS.out, h8, hv, hbs⟩
  ·skip
   refine step_store_row rfl 40 _ _ rfl w.heap.size (Dc.cl d (.slice a2 xs.length cap2) (.slice sa ls.length scap)).toArray rfl rfl 40 dz0.toArray HR.out size_Dec rfl (one_Dec _ _ _ _ _ _ _) ?_
   have HO_ := Lib.hid (HO.out.setRow (show w.heap.size < w1.heap.size by omega) (Dc.cl d (.slice a2 xs.length cap2) (.slice sa ls.length scap)).toArray); have HL_ := Lib.hid (owns_setRow HL.out (show w.heap.size < w1.heap.size by omega) (Dc.cl d (.slice a2 xs.length cap2) (.slice sa ls.length scap)).toArray); have HRd := Lib.hid (hset_row (cs' := (Dc.cl d (.slice a2 xs.length cap2) (.slice sa ls.length scap)).toArray) HR.out)
   have hbs : Below w.heap.size w (w9.setRow w.heap.size (Dc.cl d (.slice a2 xs.length cap2) (.slice sa ls.length scap)).toArray) := below_setRow (hbw1.trans ((HU.out.oth.below (n := w.heap.size) (by omega) hcl))) (Nat.le_refl _) _
   have hsz_ : w1.heap.size ≤ (w9.setRow w.heap.size (Dc.cl d (.slice a2 xs.length cap2) (.slice sa ls.length scap)).toArray).heap.size := by rw [size_setRow]; exact hsz
   obtain ⟨w14, hw_⟩ : ∃ q, w9.setRow w.heap.size (Dc.cl d (.slice a2 xs.length cap2) (.slice sa ls.length scap)).toArray = q := ⟨_, rfl⟩
   rw [hw_] at HO_ HL_ HRd hbs hsz_ ⊢
   clear HO HL HR HU hsz; have HO := HO_; have HL := HL_; have hsz := hsz_; clear HO_ HL_ hsz_
   clear hw_
   refine hK.out _ _ (fun _ => trivial) ?_
   clear hK K
   try simp only [List.getElem_toArray, List.getElem_cons_succ, List.getElem_cons_zero, Act.put, List.setIfInBounds_toArray, List.set_cons_zero, List.set_cons_succ]
   refine wpTill_op (i := 4) (by kernel_rfl) rfl (fun K hK => ?_)
   go_simp
   have hG_ : (w14.alloc (.cells #[.int .u64 0, .int .u64 1, .int .u64 5, .int .u64 60, .int .u64 61, .int .u64 200, .int .u64 2000, .int .u64 2001, .int .u64 u] 30)).heap[w14.heap.size]? = some (.cells #[.int .u64 0, .int .u64 1, .int .u64 5, .int .u64 60, .int .u64 61, .int .u64 200, .int .u64 2000, .int .u64 2001, .int .u64 u] 30 (0, 0)) := hset_new rfl
   have HO_ := Lib.hid (HO.out.alloc (.cells #[.int .u64 0, .int .u64 1, .int .u64 5, .int .u64 60, .int .u64 61, .int .u64 200, .int .u64 2000, .int .u64 2001, .int .u64 u] 30)); have HL_ := Lib.hid (World.ownsRow.alloc HL.out (.cells #[.int .u64 0, .int .u64 1, .int .u64 5, .int .u64 60, .int .u64 61, .int .u64 200, .int .u64 2000, .int .u64 2001, .int .u64 u] 30)); have HRd_ := Lib.hid (hset_alloc (o := .cells #[.int .u64 0, .int .u64 1, .int .u64 5, .int .u64 60, .int .u64 61, .int .u64 200, .int .u64 2000, .int .u64 2001, .int .u64 u] 30) HRd.out); have hbs_ := hbs.alloc (show w.heap.size ≤ w14.heap.size by omega) (.cells #[.int .u64 0, .int .u64 1, .int .u64 5, .int .u64 60, .int .u64 61, .int .u64 200, .int .u64 2000, .int .u64 2001, .int .u64 u] 30)
   obtain ⟨w15, hw_⟩ : ∃ q, w14.alloc (.cells #[.int .u64 0, .int .u64 1, .int .u64 5, .int .u64 60, .int .u64 61, .int .u64 200, .int .u64 2000, .int .u64 2001, .int .u64 u] 30) = q := ⟨_, rfl⟩
   rw [hw_] at HO_ HL_ HRd_ hbs_ hG_ ⊢
   clear HO HL HRd hbs hw_; have HO := HO_; have HL := HL_; have HRd := HRd_; have hbs := hbs_; clear HO_ HL_ HRd_ hbs_
   obtain ⟨G, hGe⟩ : ∃ q, w14.heap.size = q := ⟨_, rfl⟩
   rw [hGe] at hG_
   try simp only [hGe]
   clear hGe
   have HG := Lib.hid hG_; clear hG_
   refine hK.out _ _ (fun _ => trivial) ?_
   clear hK K
   try simp only [List.getElem_toArray, List.getElem_cons_succ, List.getElem_cons_zero, Act.put, List.setIfInBounds_toArray, List.set_cons_zero, List.set_cons_succ]
   refine wpTill_op (i := 7) (by kernel_rfl) rfl (fun K hK => ?_)
   have hk9 : (k : Int) < 9 := by omega
   go_simp
   clear hk9
   refine hK.out _ _ (fun _ => trivial) ?_
   clear hK K
   try simp only [List.getElem_toArray, List.getElem_cons_succ, List.getElem_cons_zero, Act.put, List.setIfInBounds_toArray, List.set_cons_zero, List.set_cons_succ]
   refine wpTill_op (i := 8) (by kernel_rfl) rfl (fun K hK => ?_)
   obtain ⟨v, hv, hcv⟩ := nine_u hu (by omega : k < 9) HG.out
   go_simp
   clear hcv
   refine hK.out _ _ (fun _ => trivial) ?_
   clear hK K
   try simp only [List.getElem_toArray, List.getElem_cons_succ, List.getElem_cons_zero, Act.put, List.setIfInBounds_toArray, List.set_cons_zero, List.set_cons_succ]
   refine wpTill_op (i := 10) (by kernel_rfl) rfl (fun K hK => ?_)
   go_simp
   refine hK.out _ _ (fun _ => trivial) ?_
   clear hK K
   try simp only [List.getElem_toArray, List.getElem_cons_succ, List.getElem_cons_zero, Act.put, List.setIfInBounds_toArray, List.set_cons_zero, List.set_cons_succ]
   refine wpTill_done (by kernel_rfl) ?_ _
   go_wp2
   have hnil := own_nilc2 HL.out
   refine bodyPost_ret (results_cell_tmp Tryz.results15 rfl rfl (run_loadVar_mid _ w.heap.size 0 40 (Dc.cl d (.slice a2 xs.length cap2) (.slice sa ls.length scap)) _ (range_of_box (t := 40) HRd.out) Tryz.underlying40 rfl size_Dec)) rfl ⟨d, xs, ls, a2, cap2, sa, scap, _, rfl, HO.out.shsC, lvls_of_own HL.out rfl, fun e => (hnil e).2, HS.out, h8, hv, hbs⟩
theorem MachI.lvls {base M : Nat} {w0 w w' : World} {d e : Dc} {xs : List Shp} {ls ls' : List Lvl} {es : List Ev} {a sa ea sa' : Option Addr} {cap scap ecap scap' : Nat} {rs : List ShR}
  (h : MachI base w0 w M d xs ls es a cap rs sa scap ea ecap) (hg : w.grownBy w' (some M))
  (hb : w'.heap[M]? = some (.cells #[.slice a xs.length cap, .int .i64 e.p.root, .int .i64 e.p.deep, .int .i64 e.p.most, .int .i64 e.mode, .slice sa' ls'.length scap', .int .u64 e.bits, .int .i64 e.have_, .int .i64 e.start, .int .i64 e.at_, .int .i64 e.field.number, .int .i64 e.field.kind, .bool e.field.rep, .bool e.field.packed, .int .i64 e.field.msg, .int .i64 e.wire, .int .i64 e.want, .int .i64 e.utf.want, .int .i64 e.utf.low, .int .i64 e.utf.high, .int .i64 e.end_.kind, .int .i64 e.end_.field, .int .u64 e.end_.bits, .int .i64 e.end_.len, .string e.end_.text, .int .i64 e.end_.code, .int .i64 e.end_.at_, .slice ea es.length ecap] 88 (0, 0)))
  (ho : w'.ownsRow base 67 2 (.slice sa' ls'.length scap') ls'.length (ls'.flatMap Lvl.cs)) : MachI base w0 w' M e xs ls' es a cap rs sa' scap' ea ecap where
 box := hb
 sh := h.sh.keepBy hg (other_box h.box (by decide)) (other_box h.box (by decide))
 lv := ho
 ev := owns_keep h.ev hg (other_box h.box (by decide))
 bel := h.below' hg (fun g e => by obtain rfl := Option.some.inj e; exact h.le)
 le := h.le
 bz := Nat.le_trans h.bz hg.size
set_option maxRecDepth 100000 in
set_option maxHeartbeats 2000000 in
theorem frame_any (base : Nat) (w0 w : World) (M : Nat) (d : Dc) (xs : List Shp) (ls : List Lvl) (u : Int) (hm : Mach base w0 w M d xs ls []) (hn : xs.length ≤ 1048576) (hm2 : fldSum xs ≤ 1048576) (hm' : ls.length ≤ 1048576) (hok : lvOk d xs ls = true) (hu : (Lit.int .u64 u).wf = true) :
  Calls Tryz.prog 45 #[.pointer (some ⟨M, 0, none⟩), .int .u64 u] w fun r w' => r = .returned (.tuple #[]) ∧ Mach base w0 w' M (frameO d xs ls u).1 xs (frameO d xs ls u).2.1 (frameO d xs ls u).2.2 := by
 obtain ⟨a, cap, rs, sa, scap, ea, ecap, hm⟩ := hm
 have HM := Lib.hid hm; clear hm
 have kM := box_cells HM.out.box; have fM := box_frozen HM.out.box; have hBM := HM.out.lt
 have hu0 := (WU64.lo hu).1
 have hmost := lvOk_most hok
 have hmw : IntKind.u64.wrap d.p.most = d.p.most := by rw [IntKind.wrap_u64]; omega
 obtain ⟨R, hR⟩ : ∃ R, frameO d xs ls u = R := ⟨_, rfl⟩
 rw [hR]
 have HR := Lib.hid hR; clear hR
 go_enter Tryz.func45, Tryz.ntmps45
 by_cases hum : d.p.most < u
 ·have eR : Hid (R = failO (scan0 d) ls 7 d.start) := Lib.hid (by rw [← HR.out]; simp only [frameO, hok, if_pos hum]; rfl)
  go_wp2_with fail
  generalize hw2 : World.setCell _ (⟨M, 7, none⟩ : Addr) (.int .i64 0) = w2
  have hB2 : w2.heap[M]? = some (.cells #[.slice a xs.length cap, .int .i64 d.p.root, .int .i64 d.p.deep, .int .i64 d.p.most, .int .i64 d.mode, .slice sa ls.length scap, .int .u64 (0), .int .i64 (0), .int .i64 d.start, .int .i64 d.at_, .int .i64 d.field.number, .int .i64 d.field.kind, .bool d.field.rep, .bool d.field.packed, .int .i64 d.field.msg, .int .i64 d.wire, .int .i64 d.want, .int .i64 d.utf.want, .int .i64 d.utf.low, .int .i64 d.utf.high, .int .i64 d.end_.kind, .int .i64 d.end_.field, .int .u64 d.end_.bits, .int .i64 d.end_.len, .string d.end_.text, .int .i64 d.end_.code, .int .i64 d.end_.at_, .slice ea ([] : List Ev).length ecap] 88 (0, 0)) := by rw [← hw2]; apply hset_eq; (repeat (first | (with_reducible exact HM.out.box) | (with_reducible apply hset_set))); simp only [List.setIfInBounds_toArray, List.set_cons_zero, List.set_cons_succ]
  have hG2 : w.grownBy w2 (some M) := by rw [← hw2]; (repeat (with_reducible refine only_cell ?_ _ _)); exact only_refl _ _
  clear hw2 kM fM hBM
  have H2 : MachI base w0 w2 M (scan0 d) xs ls [] a cap rs sa scap ea ecap := HM.out.upd hG2 hB2
  refine (fails_any base w0 w2 M (scan0 d) xs ls [] 7 d.start ⟨a, cap, rs, sa, scap, ea, ecap, H2⟩ (by simp)).mono ?_
  rintro r w3 ⟨rfl, h3⟩
  have H3 := Lib.hid h3; clear h3
  go_wp2
  rw [eR.out]
  exact bodyPost_ret (v := .tuple #[]) (results_none rfl _ _ _) rfl ⟨rfl, H3.out⟩
 ·have eR : Hid (R = behind [frameE u] (settle (modeD (scan0 d) 2) [⟨d.p.root, u⟩])) := Lib.hid (by rw [← HR.out]; simp only [frameO, hok, if_neg hum]; rfl)
  have huw : IntKind.i64.wrap u = u := IntWalk.i64_in _ (by omega)
  go_wp2_with fail
  generalize hw2 : World.setCell _ (⟨M, 7, none⟩ : Addr) (.int .i64 0) = w2
  have hB2 : w2.heap[M]? = some (.cells #[.slice a xs.length cap, .int .i64 d.p.root, .int .i64 d.p.deep, .int .i64 d.p.most, .int .i64 d.mode, .slice sa ls.length scap, .int .u64 (0), .int .i64 (0), .int .i64 d.start, .int .i64 d.at_, .int .i64 d.field.number, .int .i64 d.field.kind, .bool d.field.rep, .bool d.field.packed, .int .i64 d.field.msg, .int .i64 d.wire, .int .i64 d.want, .int .i64 d.utf.want, .int .i64 d.utf.low, .int .i64 d.utf.high, .int .i64 d.end_.kind, .int .i64 d.end_.field, .int .u64 d.end_.bits, .int .i64 d.end_.len, .string d.end_.text, .int .i64 d.end_.code, .int .i64 d.end_.at_, .slice ea ([] : List Ev).length ecap] 88 (0, 0)) := by rw [← hw2]; apply hset_eq; (repeat (first | (with_reducible exact HM.out.box) | (with_reducible apply hset_set))); simp only [List.setIfInBounds_toArray, List.set_cons_zero, List.set_cons_succ]
  have hG2 : w.grownBy w2 (some M) := by rw [← hw2]; (repeat (with_reducible refine only_cell ?_ _ _)); exact only_refl _ _
  clear hw2 kM fM hBM
  have H2 : MachI base w0 w2 M (scan0 d) xs ls [] a cap rs sa scap ea ecap := HM.out.upd hG2 hB2
  refine (emit_any base w0 w2 M (scan0 d) xs ls [] (frameE u) ⟨a, cap, rs, sa, scap, ea, ecap, H2⟩ (by simp)).mono ?_
  rintro r w3 ⟨rfl, a3, cap3, rs3, sa3, scap3, ea3, ecap3, h3⟩
  have H3 := Lib.hid h3; clear h3 H2 HM
  have kM := box_cells H3.out.box; have fM := box_frozen H3.out.box; have hBM := H3.out.lt
  have hbz3 := H3.out.bz
  have hle3 := H3.out.le
  go_wp2_with fail
  generalize hw4 : World.alloc _ (.cells #[.int .i64 (scan0 d).p.root, .int .i64 u] 67) = w4
  have hB4 : w4.heap[M]? = some (.cells #[.slice a3 xs.length cap3, .int .i64 d.p.root, .int .i64 d.p.deep, .int .i64 d.p.most, .int .i64 (2), .slice (some ⟨w3.heap.size, 0, none⟩) 1 1, .int .u64 (0), .int .i64 (0), .int .i64 d.start, .int .i64 d.at_, .int .i64 d.field.number, .int .i64 d.field.kind, .bool d.field.rep, .bool d.field.packed, .int .i64 d.field.msg, .int .i64 d.wire, .int .i64 d.want, .int .i64 d.utf.want, .int .i64 d.utf.low, .int .i64 d.utf.high, .int .i64 d.end_.kind, .int .i64 d.end_.field, .int .u64 d.end_.bits, .int .i64 d.end_.len, .string d.end_.text, .int .i64 d.end_.code, .int .i64 d.end_.at_, .slice ea3 ([frameE u] : List Ev).length ecap3] 88 (0, 0)) := by rw [← hw4]; apply hset_eq; (repeat (first | (with_reducible exact H3.out.box) | (with_reducible apply hset_set) | (with_reducible apply hset_alloc))); simp only [List.setIfInBounds_toArray, List.set_cons_zero, List.set_cons_succ]; rfl
  have hG4 : w3.grownBy w4 (some M) := by rw [← hw4]; (repeat (first | (with_reducible refine only_cell ?_ _ _) | (with_reducible refine only_alloc ?_ _))); with_reducible exact only_refl _ _
  have hP4 : w4.ownsRow base 67 2 (.slice (some ⟨w3.heap.size, 0, none⟩) 1 1) 1 (([⟨d.p.root, u⟩] : List Lvl).flatMap Lvl.cs) := by
   have h0 := World.ownsRow.of_lvl ((w3.setCell ⟨M, 5, none⟩ (.slice (some ⟨w3.heap.size, 0, none⟩) 1 1)).setCell ⟨M, 4, none⟩ (.int .i64 2)) (scan0 d).p.root u 67
   simp only [World.size_setCell] at h0
   rw [← hw4]
   exact owns_le h0 hbz3
  clear hw4 kM fM hBM
  have H4 : MachI base w0 w4 M (modeD (scan0 d) 2) xs [⟨d.p.root, u⟩] [frameE u] a3 cap3 rs3 (some ⟨w3.heap.size, 0, none⟩) 1 ea3 ecap3 := H3.out.lvls hG4 hB4 hP4
  refine (settle_any base w0 w4 M (modeD (scan0 d) 2) xs [⟨d.p.root, u⟩] [frameE u] ⟨_, _, _, _, _, _, _, H4⟩ (by simp) hn hm2 (by simp)).mono ?_
  rintro r w5 ⟨rfl, h5⟩
  have eS : settleO (modeD (scan0 d) 2) xs [⟨d.p.root, u⟩] = settle (modeD (scan0 d) 2) [⟨d.p.root, u⟩] := by simp only [settleO, lvOk_frame hok hu0 (Int.not_lt.2 hum)]; rfl
  rw [eS] at h5
  have H5 := Lib.hid h5; clear h5
  go_wp2
  go_end0
  rw [eR.out]
  exact ⟨rfl, H5.out⟩
set_option maxHeartbeats 1000000 in
theorem frame1_any (base : Nat) (w0 w : World) (M : Nat) (d : Dc) (xs : List Shp) (ls : List Lvl) (C : Nat) (u : Int) (hm : Mach base w0 w M d xs ls []) (hn : xs.length ≤ 1048576) (hm2 : fldSum xs ≤ 1048576) (hm' : ls.length ≤ 1048576) (hok : lvOk d xs ls = true) (hu : (Lit.int .u64 u).wf = true) (hC : w.cell? ⟨C, 0, none⟩ = some (.int .u64 u)) :
  Calls Tryz.prog 44 #[.pointer (some ⟨M, 0, none⟩), .pointer (some ⟨C, 0, none⟩)] w fun r w' => r = .returned (.tuple #[]) ∧ Mach base w0 w' M (frameO d xs ls u).1 xs (frameO d xs ls u).2.1 (frameO d xs ls u).2.2 := by
 go_enter Tryz.func44, Tryz.ntmps44
 go_wp2_with fail
 refine (frame_any base w0 w M d xs ls u hm hn hm2 hm' hok hu).mono ?_
 rintro r w3 ⟨rfl, h3⟩
 have H3 := Lib.hid h3; clear h3
 go_wp2
 go_end0
 exact ⟨rfl, H3.out⟩
set_option maxRecDepth 100000 in
set_option maxHeartbeats 1000000 in
theorem implFrame_any (d : Dc) (a : Option Addr) (cap : Nat) (xs : List Shp) (sa : Option Addr) (scap : Nat) (ls : List Lvl) (u : Int) (w : World) (h : ShsC w a xs) (h' : Lvls w sa ls) (hn : xs.length ≤ 1048576) (hm : fldSum xs ≤ 1048576) (hm' : ls.length ≤ 1048576) (hnil : sa = none → scap = 0) (hu : (Lit.int .u64 u).wf = true) :
  Calls Tryz.prog 16 #[d.val (.slice a xs.length cap) (.slice sa ls.length scap), .int .u64 u] w (FreshDE w 77 34 67 38 xs (frameO d xs ls u)) := by
 have HSs := Lib.hid h; clear h
 have HSl := Lib.hid h'; clear h'
 have hF := enter_of Tryz.func44 (by kernel_rfl) (by kernel_rfl)
 obtain ⟨O, hO⟩ : ∃ O, frameO d xs ls u = O := ⟨_, rfl⟩
 rw [hO]
 go_enter Tryz.func16, Tryz.ntmps16
 go_wp2_with (first | (refine wlm w.heap.size (Dc.cl d (.slice a xs.length cap) (.slice sa ls.length scap)) (range_of_box (t := 40) (hset_alloc (hset_alloc (hset_new rfl)))) ?_))
 refine (on_any d a cap xs sa scap ls 44 #[.pointer (some ⟨w.heap.size + 1, 0, none⟩)] O _ (HSs.out.keep bl) (Sl.keep HSl.out bl) hn hm hm' hnil hF ?_ ?_).mono ?_
 ·intro hl base w0 w1 M hb hbase hbz hmach
  obtain ⟨a1, cap1, rs1, sa1, scap1, ea1, ecap1, hI⟩ := hmach
  have hbl := hI.bel
  simp only [World.size_alloc] at hbase
  have hC : w1.cell? ⟨w.heap.size + 1, 0, none⟩ = some (.int .u64 u) := (hbl.cell (p := ⟨w.heap.size + 1, 0, none⟩) (by simp only; omega)).trans ((hb.cell (p := ⟨w.heap.size + 1, 0, none⟩) (by simp only [World.size_alloc]; omega)).trans (box_cells (hset_alloc (hset_new (by simp))) 0))
  have h0 := frame1_any base w0 w1 M d xs ls (w.heap.size + 1) u ⟨a1, cap1, rs1, sa1, scap1, ea1, ecap1, hI⟩ hn hm hm' hl hu hC
  rw [hO] at h0
  exact h0
 ·intro hl
  rw [← hO]; simp only [frameO, hl]; rfl
 rintro r w2 ⟨a2, cap2, rs2, sa2, scap2, ea2, ecap2, rfl, ho2, hp2, he2, hb2⟩
 have hz2 := hb2.size
 simp only [World.size_alloc] at hz2
 obtain ⟨e, ms, es⟩ := O
 have HR := Lib.hid ((hb2.block (w.heap.size + 1 + 1) (by simp)).trans (hset_new (by simp)))
 have hbw : Below w.heap.size w w2 := by exact bl
 have hs4 : w.heap.size + 1 + 1 + 1 ≤ w2.heap.size := hz2
 have P1 := Lib.hid (OwnShs.le ho2 (show w.heap.size + 1 + 1 + 1 ≤ _ by simp)); clear ho2
 have P2 := Lib.hid (owns_le hp2 (show w.heap.size + 1 + 1 + 1 ≤ _ by simp)); clear hp2
 have P3 := Lib.hid (owns_le he2 (show w.heap.size + 1 + 1 + 1 ≤ _ by simp)); clear he2 hb2
 go_wp2_with (first | (refine wsq (w.heap.size + 1 + 1) (Dc.cl e (.slice a2 xs.length cap2) (.slice sa2 ms.length scap2)).toArray HR.out (one_Dec _ _ _ _ _ _ _) ?_))
 refine finDE (w := w) (R := w.heap.size + 1 + 1) (base := w.heap.size + 1 + 1 + 1) (e := e) (ms := ms) (es := es) (rs := rs2) (a := a2) (cap := cap2) (sa := sa2) (scap := scap2) (ea := ea2) (ecap := ecap2) Tryz.results16 rfl rfl ?_ ?_ ?_ ?_ ?_ (by omega)
 ·exact hset_row (cs := dz0.toArray) HR.out
 ·refine OwnShs.setRow P1.out ?_ _; omega
 ·refine owns_setRow P2.out ?_ _; omega
 ·refine owns_setRow P3.out ?_ _; omega
 ·exact bl
end Go.Proofs.YtabdjimjelfbfaaGreat

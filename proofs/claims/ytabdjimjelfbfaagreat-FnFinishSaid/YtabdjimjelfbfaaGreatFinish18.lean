/- Texts that FnFinish leans on, part 18. (Put together by wip/tools/bundle.py.) -/
import Derived.Test.YtabdjimjelfbfaaGreatFinish1
import Derived.Test.YtabdjimjelfbfaaGreatFinish2
import Derived.Test.YtabdjimjelfbfaaGreatFinish3
import Derived.Test.YtabdjimjelfbfaaGreatFinish4
import Derived.Test.YtabdjimjelfbfaaGreatFinish10
import Derived.Test.YtabdjimjelfbfaaGreatFinish11
import Derived.Test.YtabdjimjelfbfaaGreatFinish12
import Derived.Test.YtabdjimjelfbfaaGreatFinish13
namespace Go.Proofs.YtabdjimjelfbfaaGreat
set_option linter.unusedSimpArgs false
set_option linter.unusedVariables false
open Go.ChangeShapes Go.WideShapes Go.ChangeAt Go.RowKit Go.BigFrame
def doneE (t : Int) : Ev := ⟨9, 0, 0, 0, ⟨#[]⟩, 0, t⟩
def doneD (d : Dc) : Dc := ⟨d.p, 9, d.bits, d.have_, d.start, d.at_, d.field, d.wire, d.want, d.utf, doneE d.at_⟩
def finO (d : Dc) (xs : List Shp) (ls : List Lvl) : Outc := if decOk d xs ls = true ∧ ¬ d.mode = 9 then (if atBoundary d xs ls = true then (doneD d, ls, [doneE d.at_]) else failO d ls 10 d.at_) else (d, ls, [])
set_option maxRecDepth 100000 in
set_option maxHeartbeats 6000000 in
theorem implFinish_any (d : Dc) (a : Option Addr) (cap : Nat) (xs : List Shp) (sa : Option Addr) (scap : Nat) (ls : List Lvl) (w : World) (h : ShsC w a xs) (h' : Lvls w sa ls) (hn : xs.length ≤ 1048576) (hm : fldSum xs ≤ 1048576) (hm' : ls.length ≤ 1048576) (hnil : sa = none → scap = 0) :
  Calls Tryz.prog 26 #[d.val (.slice a xs.length cap) (.slice sa ls.length scap)] w (FreshDE w 77 34 67 38 xs (finO d xs ls)) := by
 have HSs := Lib.hid h; clear h
 have HSl := Lib.hid h'; clear h'
 obtain ⟨O, hO⟩ : ∃ O, finO d xs ls = O := ⟨_, rfl⟩
 rw [hO]
 have HO := Lib.hid hO; clear hO
 go_enter Tryz.func26, Tryz.ntmps26
 go_wp2_with (first | (refine wlm w.heap.size (Dc.cl d (.slice a xs.length cap) (.slice sa ls.length scap)) (range_of_box (t := 40) (hset_alloc (hset_new rfl))) ?_))
 refine (copyDec_any d a cap xs sa scap ls _ (HSs.out.keep bl) (Sl.keep HSl.out bl) hn hm hm' hnil).mono ?_
 rintro r w1 ⟨a1, cap1, rs1, sa1, scap1, rfl, ho1, hp1, hb1⟩
 have hz1 := hb1.size
 simp only [World.size_alloc] at hz1
 have hA_ : w1.heap[w.heap.size]? = some (.cells (Dc.cl d (.slice a xs.length cap) (.slice sa ls.length scap)).toArray 40 (0, 0)) := (hb1.block _ (by simp; omega)).trans (hset_alloc (hset_new rfl))
 have hR_ : w1.heap[w.heap.size + 1]? = some (.cells dz0.toArray 40 (0, 0)) := (hb1.block _ (by simp)).trans (hset_new (by simp))
 have hb1b : Below w.heap.size w w1 := by exact bl
 have P1 := Lib.hid (OwnShs.le ho1 (show w.heap.size + 1 + 1 ≤ _ by simp)); clear ho1
 have P2 := Lib.hid (owns_le hp1 (show w.heap.size + 1 + 1 ≤ _ by simp)); clear hp1
 have HA := Lib.hid hA_; clear hA_
 have HR := Lib.hid hR_; clear hR_ hb1
 have HSs2 := Lib.hid (ShsC.keep HSs.out hb1b); clear HSs
 have HSl2 := Lib.hid (Sl.keep HSl.out hb1b); clear HSl
 go_wp2_with (first | (refine wlm w.heap.size (Dc.cl d (.slice a xs.length cap) (.slice sa ls.length scap)) (range_of_box (t := 40) (hset_alloc HA.out)) ?_))
 refine (implDecOk_any d a cap _ xs sa scap _ ls _ (HSs2.out.shs.keep bl) (Sl.keep HSl2.out bl) rfl rfl hn hm hm').mono ?_
 rintro r w2 ⟨rfl, hb2⟩
 have hb12 : Below w1.heap.size w1 w2 := by exact bl
 have hz2' := hb12.size
 have H2_ : MachI (w.heap.size + 1 + 1) w1 w2 w1.heap.size d xs ls [] a1 cap1 rs1 sa1 scap1 none 0 :=
  { box := (hb2.block _ (by simp)).trans (hset_new rfl), sh := P1.out.chain hb12 (Nat.le_refl _), lv := owns_below P2.out hb12 (Nat.le_refl _), ev := World.ownsRow_nil _ _ _ _, bel := hb12.mono (by omega), le := by omega, bz := by have := hb12.size; omega }
 have HA2 := Lib.hid ((hb12.block _ (by omega)).trans HA.out); clear HA
 have kA := box_cells HA2.out; have hBA := box_lt HA2.out
 have H2 := Lib.hid H2_; clear H2_ P1 P2 hb2
 cases hk : decOk d xs ls
 ·skip
  obtain ⟨e, ms, es, hO3, a3, cap3, rs3, sa3, scap3, ea3, ecap3, h3⟩ : ∃ e ms es, O = (e, ms, es) ∧ Mach (w.heap.size + 1 + 1) w1 w2 w1.heap.size e xs ms es := ⟨_, _, _, by rw [← HO.out]; simp only [finO, hk]; rfl, ⟨_, _, _, _, _, _, _, H2.out⟩⟩
  have HO3 := Lib.hid hO3; clear hO3
  clear H2
  have H2 := Lib.hid h3; clear h3
  have hz2 := H2.out.bel.size
  have HRn := Lib.hid (show w2.heap[w.heap.size + 1]? = some (.cells dz0.toArray 40 (0, 0)) from (H2.out.bel.block _ (by omega)).trans HR.out)
  have kM := box_cells H2.out.box
  go_wp2_with fail
  refine wp_region_till (fun w' => ∀ i : Nat, w'.cell? ⟨w1.heap.size, i, none⟩ = (#[.slice a3 xs.length cap3, .int .i64 e.p.root, .int .i64 e.p.deep, .int .i64 e.p.most, .int .i64 e.mode, .slice sa3 ms.length scap3, .int .u64 e.bits, .int .i64 e.have_, .int .i64 e.start, .int .i64 e.at_, .int .i64 e.field.number, .int .i64 e.field.kind, .bool e.field.rep, .bool e.field.packed, .int .i64 e.field.msg, .int .i64 e.wire, .int .i64 e.want, .int .i64 e.utf.want, .int .i64 e.utf.low, .int .i64 e.utf.high, .int .i64 e.end_.kind, .int .i64 e.end_.field, .int .u64 e.end_.bits, .int .i64 e.end_.len, .string e.end_.text, .int .i64 e.end_.code, .int .i64 e.end_.at_, .slice ea3 es.length ecap3] : Array Value)[i]?) (fun _ => false) (by kernel_rfl) ?_
  have hS : (fun w' : World => ∀ i : Nat, w'.cell? ⟨w1.heap.size, i, none⟩ = (#[.slice a3 xs.length cap3, .int .i64 e.p.root, .int .i64 e.p.deep, .int .i64 e.p.most, .int .i64 e.mode, .slice sa3 ms.length scap3, .int .u64 e.bits, .int .i64 e.have_, .int .i64 e.start, .int .i64 e.at_, .int .i64 e.field.number, .int .i64 e.field.kind, .bool e.field.rep, .bool e.field.packed, .int .i64 e.field.msg, .int .i64 e.wire, .int .i64 e.want, .int .i64 e.utf.want, .int .i64 e.utf.low, .int .i64 e.utf.high, .int .i64 e.end_.kind, .int .i64 e.end_.field, .int .u64 e.end_.bits, .int .i64 e.end_.len, .string e.end_.text, .int .i64 e.end_.code, .int .i64 e.end_.at_, .slice ea3 es.length ecap3] : Array Value)[i]?) w2.drew := kM
  clear kM
  refine tk (i := 0) hS ?_
  refine tk (i := 1) hS ?_
  refine tk (i := 2) hS ?_
  refine' wpTill_take (i := 3) (oi := _) (v := _) rfl (by kernel_rfl) (by kernel_rfl) (by kernel_rfl) (by kernel_rfl) (fun _ _ _ h => h) (yieldsIf_load_mid (by rfl) _ _ rfl _ _ rfl (Dc.cl e (.slice a3 xs.length cap3) (.slice sa3 ms.length scap3)) _ (fun wq hq => fun j u hj => (hq (0 + j)).trans (by rw [Nat.zero_add, List.getElem?_toArray]; exact pre_at hj)) Tryz.underlying40 rfl size_Dec) hS ?_
  try simp only [List.getElem_toArray, List.getElem_cons_succ, List.getElem_cons_zero, Act.put, List.setIfInBounds_toArray, List.set_cons_zero, List.set_cons_succ]
  refine tk (i := 4) hS ?_
  refine tk (i := 5) hS ?_
  refine tk (i := 6) hS ?_
  refine tk (i := 7) hS ?_
  refine wpTill_op (i := 8) (by kernel_rfl) rfl (fun K hK => ?_)
  refine step_store_row rfl 40 (.tmp 2) (.tmp 46) rfl (w.heap.size + 1) (Dc.cl e (.slice a3 xs.length cap3) (.slice sa3 ms.length scap3)).toArray rfl rfl 40 dz0.toArray HRn.out size_Dec rfl (by simp [Value.oneCell']) ?_
  have hS1 : (fun w' : World => ∀ i : Nat, w'.cell? ⟨w1.heap.size, i, none⟩ = (#[.slice a3 xs.length cap3, .int .i64 e.p.root, .int .i64 e.p.deep, .int .i64 e.p.most, .int .i64 e.mode, .slice sa3 ms.length scap3, .int .u64 e.bits, .int .i64 e.have_, .int .i64 e.start, .int .i64 e.at_, .int .i64 e.field.number, .int .i64 e.field.kind, .bool e.field.rep, .bool e.field.packed, .int .i64 e.field.msg, .int .i64 e.wire, .int .i64 e.want, .int .i64 e.utf.want, .int .i64 e.utf.low, .int .i64 e.utf.high, .int .i64 e.end_.kind, .int .i64 e.end_.field, .int .u64 e.end_.bits, .int .i64 e.end_.len, .string e.end_.text, .int .i64 e.end_.code, .int .i64 e.end_.at_, .slice ea3 es.length ecap3] : Array Value)[i]?) (w2.drew.setRow (w.heap.size + 1) (Dc.cl e (.slice a3 xs.length cap3) (.slice sa3 ms.length scap3)).toArray) := fun i => (World.cell?_of_block (a := ⟨w1.heap.size, i, none⟩) (setRow_other _ _ _ _ (by simp; omega))).trans (hS i)
  refine hK.out _ _ (fun _ => hS1) ?_
  clear hK K
  try simp only [List.getElem_toArray, List.getElem_cons_succ, List.getElem_cons_zero, Act.put, List.setIfInBounds_toArray, List.set_cons_zero, List.set_cons_succ]
  refine wpTill_op (i := 9) (by kernel_rfl) rfl (fun K hK => ?_)
  go_simp
  refine hK.out _ _ (fun _ => hS1) ?_
  clear hK K
  refine wpTill_done (by kernel_rfl) ?_ _
  go_wp2
  rw [HO3.out]
  refine finDE (w := w) (R := w.heap.size + 1) (base := w.heap.size + 1 + 1) (e := e) (ms := ms) (es := es) (rs := rs3) (a := a3) (cap := cap3) (sa := sa3) (scap := scap3) (ea := ea3) (ecap := ecap3) Tryz.results26 rfl rfl ?_ ?_ ?_ ?_ ?_ (by omega)
  ·exact hset_row (cs := dz0.toArray) HRn.out
  ·refine OwnShs.setRow (H2.out.sh.drew) ?_ _; omega
  ·refine owns_setRow (w := w2.drew) H2.out.lv ?_ _; omega
  ·refine owns_setRow (w := w2.drew) H2.out.ev ?_ _; omega
  ·have hbx : Below w.heap.size w w2 := hb1b.trans (H2.out.bel.mono (by omega))
   exact bl
 ·by_cases h9 : d.mode = 9
  ·skip
   obtain ⟨e, ms, es, hO3, a3, cap3, rs3, sa3, scap3, ea3, ecap3, h3⟩ : ∃ e ms es, O = (e, ms, es) ∧ Mach (w.heap.size + 1 + 1) w1 w2 w1.heap.size e xs ms es := ⟨_, _, _, by rw [← HO.out, finO, if_neg (fun hh => hh.2 h9)], ⟨_, _, _, _, _, _, _, H2.out⟩⟩
   have HO3 := Lib.hid hO3; clear hO3
   clear H2
   have H2 := Lib.hid h3; clear h3
   have hz2 := H2.out.bel.size
   have HRn := Lib.hid (show w2.heap[w.heap.size + 1]? = some (.cells dz0.toArray 40 (0, 0)) from (H2.out.bel.block _ (by omega)).trans HR.out)
   have kM := box_cells H2.out.box
   go_wp2_with fail
   refine wp_region_till (fun w' => ∀ i : Nat, w'.cell? ⟨w1.heap.size, i, none⟩ = (#[.slice a3 xs.length cap3, .int .i64 e.p.root, .int .i64 e.p.deep, .int .i64 e.p.most, .int .i64 e.mode, .slice sa3 ms.length scap3, .int .u64 e.bits, .int .i64 e.have_, .int .i64 e.start, .int .i64 e.at_, .int .i64 e.field.number, .int .i64 e.field.kind, .bool e.field.rep, .bool e.field.packed, .int .i64 e.field.msg, .int .i64 e.wire, .int .i64 e.want, .int .i64 e.utf.want, .int .i64 e.utf.low, .int .i64 e.utf.high, .int .i64 e.end_.kind, .int .i64 e.end_.field, .int .u64 e.end_.bits, .int .i64 e.end_.len, .string e.end_.text, .int .i64 e.end_.code, .int .i64 e.end_.at_, .slice ea3 es.length ecap3] : Array Value)[i]?) (fun _ => false) (by kernel_rfl) ?_
   have hS : (fun w' : World => ∀ i : Nat, w'.cell? ⟨w1.heap.size, i, none⟩ = (#[.slice a3 xs.length cap3, .int .i64 e.p.root, .int .i64 e.p.deep, .int .i64 e.p.most, .int .i64 e.mode, .slice sa3 ms.length scap3, .int .u64 e.bits, .int .i64 e.have_, .int .i64 e.start, .int .i64 e.at_, .int .i64 e.field.number, .int .i64 e.field.kind, .bool e.field.rep, .bool e.field.packed, .int .i64 e.field.msg, .int .i64 e.wire, .int .i64 e.want, .int .i64 e.utf.want, .int .i64 e.utf.low, .int .i64 e.utf.high, .int .i64 e.end_.kind, .int .i64 e.end_.field, .int .u64 e.end_.bits, .int .i64 e.end_.len, .string e.end_.text, .int .i64 e.end_.code, .int .i64 e.end_.at_, .slice ea3 es.length ecap3] : Array Value)[i]?) w2.drew := kM
   clear kM
   refine tk (i := 0) hS ?_
   refine tk (i := 1) hS ?_
   refine tk (i := 2) hS ?_
   refine' wpTill_take (i := 3) (oi := _) (v := _) rfl (by kernel_rfl) (by kernel_rfl) (by kernel_rfl) (by kernel_rfl) (fun _ _ _ h => h) (yieldsIf_load_mid (by rfl) _ _ rfl _ _ rfl (Dc.cl e (.slice a3 xs.length cap3) (.slice sa3 ms.length scap3)) _ (fun wq hq => fun j u hj => (hq (0 + j)).trans (by rw [Nat.zero_add, List.getElem?_toArray]; exact pre_at hj)) Tryz.underlying40 rfl size_Dec) hS ?_
   try simp only [List.getElem_toArray, List.getElem_cons_succ, List.getElem_cons_zero, Act.put, List.setIfInBounds_toArray, List.set_cons_zero, List.set_cons_succ]
   refine tk (i := 4) hS ?_
   refine tk (i := 5) hS ?_
   refine tk (i := 6) hS ?_
   refine tk (i := 7) hS ?_
   refine wpTill_op (i := 8) (by kernel_rfl) rfl (fun K hK => ?_)
   refine step_store_row rfl 40 (.tmp 2) (.tmp 46) rfl (w.heap.size + 1) (Dc.cl e (.slice a3 xs.length cap3) (.slice sa3 ms.length scap3)).toArray rfl rfl 40 dz0.toArray HRn.out size_Dec rfl (by simp [Value.oneCell']) ?_
   have hS1 : (fun w' : World => ∀ i : Nat, w'.cell? ⟨w1.heap.size, i, none⟩ = (#[.slice a3 xs.length cap3, .int .i64 e.p.root, .int .i64 e.p.deep, .int .i64 e.p.most, .int .i64 e.mode, .slice sa3 ms.length scap3, .int .u64 e.bits, .int .i64 e.have_, .int .i64 e.start, .int .i64 e.at_, .int .i64 e.field.number, .int .i64 e.field.kind, .bool e.field.rep, .bool e.field.packed, .int .i64 e.field.msg, .int .i64 e.wire, .int .i64 e.want, .int .i64 e.utf.want, .int .i64 e.utf.low, .int .i64 e.utf.high, .int .i64 e.end_.kind, .int .i64 e.end_.field, .int .u64 e.end_.bits, .int .i64 e.end_.len, .string e.end_.text, .int .i64 e.end_.code, .int .i64 e.end_.at_, .slice ea3 es.length ecap3] : Array Value)[i]?) (w2.drew.setRow (w.heap.size + 1) (Dc.cl e (.slice a3 xs.length cap3) (.slice sa3 ms.length scap3)).toArray) := fun i => (World.cell?_of_block (a := ⟨w1.heap.size, i, none⟩) (setRow_other _ _ _ _ (by simp; omega))).trans (hS i)
   refine hK.out _ _ (fun _ => hS1) ?_
   clear hK K
   try simp only [List.getElem_toArray, List.getElem_cons_succ, List.getElem_cons_zero, Act.put, List.setIfInBounds_toArray, List.set_cons_zero, List.set_cons_succ]
   refine wpTill_op (i := 9) (by kernel_rfl) rfl (fun K hK => ?_)
   go_simp
   refine hK.out _ _ (fun _ => hS1) ?_
   clear hK K
   refine wpTill_done (by kernel_rfl) ?_ _
   go_wp2
   rw [HO3.out]
   refine finDE (w := w) (R := w.heap.size + 1) (base := w.heap.size + 1 + 1) (e := e) (ms := ms) (es := es) (rs := rs3) (a := a3) (cap := cap3) (sa := sa3) (scap := scap3) (ea := ea3) (ecap := ecap3) Tryz.results26 rfl rfl ?_ ?_ ?_ ?_ ?_ (by omega)
   ·exact hset_row (cs := dz0.toArray) HRn.out
   ·refine OwnShs.setRow (H2.out.sh.drew) ?_ _; omega
   ·refine owns_setRow (w := w2.drew) H2.out.lv ?_ _; omega
   ·refine owns_setRow (w := w2.drew) H2.out.ev ?_ _; omega
   ·have hbx : Below w.heap.size w w2 := hb1b.trans (H2.out.bel.mono (by omega))
    exact bl
  ·have HOO : Hid (O = if atBoundary d xs ls = true then (doneD d, ls, [doneE d.at_]) else failO d ls 10 d.at_) := Lib.hid (by rw [← HO.out, finO, if_pos ⟨hk, h9⟩])
   have h9d : (d.mode == 9) = false := by simp [h9]
   clear h9
   go_wp2_with (first | (refine wlm w.heap.size (Dc.cl d (.slice a xs.length cap) (.slice sa ls.length scap)) (range_of_cells kA) ?_))
   have HSs3 := Lib.hid (ShsC.keep HSs2.out hb12); clear HSs2
   have HSl3 := Lib.hid (Sl.keep HSl2.out hb12); clear HSl2
   refine (implAtBoundary_any d a cap _ xs sa scap _ ls _ (HSs3.out.shs) (HSl3.out) rfl rfl hn hm hm').mono ?_
   rintro r w4 ⟨rfl, hb4⟩
   have H4_ := Lib.hid (H2.out.keep hb4); clear H2
   have H2 := H4_; clear H4_
   have HA4 := Lib.hid ((hb4.block _ hBA).trans HA2.out); clear HA2 kA hBA
   have kA := box_cells HA4.out; have hBA := box_lt HA4.out
   cases hb : atBoundary d xs ls
   ·go_wp2_with fail
    refine (fails_any (w.heap.size + 1 + 1) w1 w4 w1.heap.size d xs ls [] 10 d.at_ ⟨_, _, _, _, _, _, _, H2.out⟩ (by simp)).mono ?_
    rintro r w3 ⟨rfl, hm3⟩
    clear H2 kA hBA HA4
    obtain ⟨e, ms, es, hO3, a3, cap3, rs3, sa3, scap3, ea3, ecap3, h3⟩ : ∃ e ms es, O = (e, ms, es) ∧ Mach (w.heap.size + 1 + 1) w1 w3 w1.heap.size e xs ms es := ⟨_, _, _, by rw [HOO.out, hb]; rfl, hm3⟩
    have HO3 := Lib.hid hO3; clear hO3
    have H3 := Lib.hid h3; clear h3
    have hz3 := H3.out.bel.size
    have HRn := Lib.hid (show w3.heap[w.heap.size + 1]? = some (.cells dz0.toArray 40 (0, 0)) from (H3.out.bel.block _ (by omega)).trans HR.out)
    have kM := box_cells H3.out.box
    go_wp2_with fail
    refine wp_region_till (fun w' => ∀ i : Nat, w'.cell? ⟨w1.heap.size, i, none⟩ = (#[.slice a3 xs.length cap3, .int .i64 e.p.root, .int .i64 e.p.deep, .int .i64 e.p.most, .int .i64 e.mode, .slice sa3 ms.length scap3, .int .u64 e.bits, .int .i64 e.have_, .int .i64 e.start, .int .i64 e.at_, .int .i64 e.field.number, .int .i64 e.field.kind, .bool e.field.rep, .bool e.field.packed, .int .i64 e.field.msg, .int .i64 e.wire, .int .i64 e.want, .int .i64 e.utf.want, .int .i64 e.utf.low, .int .i64 e.utf.high, .int .i64 e.end_.kind, .int .i64 e.end_.field, .int .u64 e.end_.bits, .int .i64 e.end_.len, .string e.end_.text, .int .i64 e.end_.code, .int .i64 e.end_.at_, .slice ea3 es.length ecap3] : Array Value)[i]?) (fun _ => false) (by kernel_rfl) ?_
    have hS : (fun w' : World => ∀ i : Nat, w'.cell? ⟨w1.heap.size, i, none⟩ = (#[.slice a3 xs.length cap3, .int .i64 e.p.root, .int .i64 e.p.deep, .int .i64 e.p.most, .int .i64 e.mode, .slice sa3 ms.length scap3, .int .u64 e.bits, .int .i64 e.have_, .int .i64 e.start, .int .i64 e.at_, .int .i64 e.field.number, .int .i64 e.field.kind, .bool e.field.rep, .bool e.field.packed, .int .i64 e.field.msg, .int .i64 e.wire, .int .i64 e.want, .int .i64 e.utf.want, .int .i64 e.utf.low, .int .i64 e.utf.high, .int .i64 e.end_.kind, .int .i64 e.end_.field, .int .u64 e.end_.bits, .int .i64 e.end_.len, .string e.end_.text, .int .i64 e.end_.code, .int .i64 e.end_.at_, .slice ea3 es.length ecap3] : Array Value)[i]?) w3.drew := kM
    clear kM
    refine tk (i := 0) hS ?_
    refine tk (i := 1) hS ?_
    refine tk (i := 2) hS ?_
    refine' wpTill_take (i := 3) (oi := _) (v := _) rfl (by kernel_rfl) (by kernel_rfl) (by kernel_rfl) (by kernel_rfl) (fun _ _ _ h => h) (yieldsIf_load_mid (by rfl) _ _ rfl _ _ rfl (Dc.cl e (.slice a3 xs.length cap3) (.slice sa3 ms.length scap3)) _ (fun wq hq => fun j u hj => (hq (0 + j)).trans (by rw [Nat.zero_add, List.getElem?_toArray]; exact pre_at hj)) Tryz.underlying40 rfl size_Dec) hS ?_
    try simp only [List.getElem_toArray, List.getElem_cons_succ, List.getElem_cons_zero, Act.put, List.setIfInBounds_toArray, List.set_cons_zero, List.set_cons_succ]
    refine tk (i := 4) hS ?_
    refine tk (i := 5) hS ?_
    refine tk (i := 6) hS ?_
    refine tk (i := 7) hS ?_
    refine wpTill_op (i := 8) (by kernel_rfl) rfl (fun K hK => ?_)
    refine step_store_row rfl 40 (.tmp 2) (.tmp 46) rfl (w.heap.size + 1) (Dc.cl e (.slice a3 xs.length cap3) (.slice sa3 ms.length scap3)).toArray rfl rfl 40 dz0.toArray HRn.out size_Dec rfl (by simp [Value.oneCell']) ?_
    have hS1 : (fun w' : World => ∀ i : Nat, w'.cell? ⟨w1.heap.size, i, none⟩ = (#[.slice a3 xs.length cap3, .int .i64 e.p.root, .int .i64 e.p.deep, .int .i64 e.p.most, .int .i64 e.mode, .slice sa3 ms.length scap3, .int .u64 e.bits, .int .i64 e.have_, .int .i64 e.start, .int .i64 e.at_, .int .i64 e.field.number, .int .i64 e.field.kind, .bool e.field.rep, .bool e.field.packed, .int .i64 e.field.msg, .int .i64 e.wire, .int .i64 e.want, .int .i64 e.utf.want, .int .i64 e.utf.low, .int .i64 e.utf.high, .int .i64 e.end_.kind, .int .i64 e.end_.field, .int .u64 e.end_.bits, .int .i64 e.end_.len, .string e.end_.text, .int .i64 e.end_.code, .int .i64 e.end_.at_, .slice ea3 es.length ecap3] : Array Value)[i]?) (w3.drew.setRow (w.heap.size + 1) (Dc.cl e (.slice a3 xs.length cap3) (.slice sa3 ms.length scap3)).toArray) := fun i => (World.cell?_of_block (a := ⟨w1.heap.size, i, none⟩) (setRow_other _ _ _ _ (by simp; omega))).trans (hS i)
    refine hK.out _ _ (fun _ => hS1) ?_
    clear hK K
    try simp only [List.getElem_toArray, List.getElem_cons_succ, List.getElem_cons_zero, Act.put, List.setIfInBounds_toArray, List.set_cons_zero, List.set_cons_succ]
    refine wpTill_op (i := 9) (by kernel_rfl) rfl (fun K hK => ?_)
    go_simp
    refine hK.out _ _ (fun _ => hS1) ?_
    clear hK K
    refine wpTill_done (by kernel_rfl) ?_ _
    go_wp2
    rw [HO3.out]
    refine finDE (w := w) (R := w.heap.size + 1) (base := w.heap.size + 1 + 1) (e := e) (ms := ms) (es := es) (rs := rs3) (a := a3) (cap := cap3) (sa := sa3) (scap := scap3) (ea := ea3) (ecap := ecap3) Tryz.results26 rfl rfl ?_ ?_ ?_ ?_ ?_ (by omega)
    ·exact hset_row (cs := dz0.toArray) HRn.out
    ·refine OwnShs.setRow (H3.out.sh.drew) ?_ _; omega
    ·refine owns_setRow (w := w3.drew) H3.out.lv ?_ _; omega
    ·refine owns_setRow (w := w3.drew) H3.out.ev ?_ _; omega
    ·have hbx : Below w.heap.size w w3 := hb1b.trans (H3.out.bel.mono (by omega))
     exact bl
   ·skip
    have kM := box_cells H2.out.box; have fM := box_frozen H2.out.box; have hBM := H2.out.lt
    go_wp2_with fail
    refine wp_region_till (Cells [(⟨w.heap.size, 9, none⟩, .int .i64 d.at_)]) (fun i => decide (12 ≤ i)) (by kernel_rfl) ?_
    have hS : Cells [(⟨w.heap.size, 9, none⟩, .int .i64 d.at_)] w4.drew := cells_mk (kA 9) (cells_no _)
    refine tk (i := 0) hS ?_
    refine tk (i := 1) hS ?_
    refine tk (i := 2) hS ?_
    refine tk (i := 3) hS ?_
    refine tk (i := 4) hS ?_
    refine tk (i := 5) hS ?_
    refine tk (i := 6) hS ?_
    refine tk (i := 7) hS ?_
    refine wpTill_op (i := 8) (by kernel_rfl) rfl (fun K hK => ?_)
    go_simp
    have hS1 : Cells [(⟨w.heap.size, 9, none⟩, .int .i64 d.at_)] (w4.drew.setCell ⟨w1.heap.size, 4, none⟩ (.int .i64 9)) := cells_mk ((World.cell?_setCell_far _ _ _ _ (by simp; omega)).trans (kA 9)) (cells_no _)
    refine hK.out _ _ (fun _ => hS1) ?_
    clear hK K
    try simp only [List.getElem_toArray, List.getElem_cons_succ, List.getElem_cons_zero, Act.put, List.setIfInBounds_toArray, List.set_cons_zero, List.set_cons_succ]
    refine wpTill_op (i := 9) (by kernel_rfl) rfl (fun K hK => ?_)
    go_simp
    refine hK.out _ _ (fun _ => hS1) ?_
    clear hK K
    try simp only [List.getElem_toArray, List.getElem_cons_succ, List.getElem_cons_zero, Act.put, List.setIfInBounds_toArray, List.set_cons_zero, List.set_cons_succ]
    refine wpTill_op (i := 10) (by kernel_rfl) rfl (fun K hK => ?_)
    go_simp
    refine hK.out _ _ (fun _ => hS1) ?_
    clear hK K
    try simp only [List.getElem_toArray, List.getElem_cons_succ, List.getElem_cons_zero, Act.put, List.setIfInBounds_toArray, List.set_cons_zero, List.set_cons_succ]
    refine wpTill_op (i := 11) (by kernel_rfl) rfl (fun K hK => ?_)
    go_simp
    refine hK.out _ _ (fun _ => hS1) ?_
    clear hK K
    try simp only [List.getElem_toArray, List.getElem_cons_succ, List.getElem_cons_zero, Act.put, List.setIfInBounds_toArray, List.set_cons_zero, List.set_cons_succ]
    refine wpTill_op (i := 12) (by kernel_rfl) rfl (fun K hK => ?_)
    go_simp
    refine hK.out _ _ (fun e => by cases e) ?_
    clear hK K
    refine wpTill_done (by kernel_rfl) ?_ _
    go_wp2_with fail
    generalize hw5 : World.drew (World.setCell _ (⟨w1.heap.size, 26, none⟩ : Addr) (.int .i64 d.at_)) = w5
    have hB5 : w5.heap[w1.heap.size]? = some (.cells #[.slice a1 xs.length cap1, .int .i64 d.p.root, .int .i64 d.p.deep, .int .i64 d.p.most, .int .i64 (9), .slice sa1 ls.length scap1, .int .u64 d.bits, .int .i64 d.have_, .int .i64 d.start, .int .i64 d.at_, .int .i64 d.field.number, .int .i64 d.field.kind, .bool d.field.rep, .bool d.field.packed, .int .i64 d.field.msg, .int .i64 d.wire, .int .i64 d.want, .int .i64 d.utf.want, .int .i64 d.utf.low, .int .i64 d.utf.high, .int .i64 (9), .int .i64 (0), .int .u64 (0), .int .i64 (0), .string (⟨#[]⟩), .int .i64 (0), .int .i64 (d.at_), .slice none ([] : List Ev).length 0] 88 (0, 0)) := by rw [← hw5]; apply hset_eq; (repeat (first | (with_reducible exact H2.out.box) | (with_reducible apply hset_set) | (with_reducible apply hset_drew))); simp only [List.setIfInBounds_toArray, List.set_cons_zero, List.set_cons_succ]
    have hG5 : w4.grownBy w5 (some w1.heap.size) := by rw [← hw5]; (repeat (first | (with_reducible refine only_cell ?_ _ _) | (with_reducible refine only_drew ?_))); with_reducible exact only_refl _ _
    clear hw5 kM fM hBM
    have H5 : MachI (w.heap.size + 1 + 1) w1 w5 w1.heap.size (doneD d) xs ls [] a1 cap1 rs1 sa1 scap1 none 0 := H2.out.upd hG5 hB5
    refine (emit_any (w.heap.size + 1 + 1) w1 w5 w1.heap.size (doneD d) xs ls [] (doneE d.at_) ⟨_, _, _, _, _, _, _, H5⟩ (by simp)).mono ?_
    rintro r w3 ⟨rfl, hm3⟩
    clear H2 kA hBA HA4 hS hS1 hG5 hB5 H5
    obtain ⟨e, ms, es, hO3, a3, cap3, rs3, sa3, scap3, ea3, ecap3, h3⟩ : ∃ e ms es, O = (e, ms, es) ∧ Mach (w.heap.size + 1 + 1) w1 w3 w1.heap.size e xs ms es := ⟨_, _, _, by rw [HOO.out, hb]; rfl, hm3⟩
    have HO3 := Lib.hid hO3; clear hO3
    have H3 := Lib.hid h3; clear h3
    have hz3 := H3.out.bel.size
    have HRn := Lib.hid (show w3.heap[w.heap.size + 1]? = some (.cells dz0.toArray 40 (0, 0)) from (H3.out.bel.block _ (by omega)).trans HR.out)
    have kM := box_cells H3.out.box
    go_wp2_with fail
    refine wp_region_till (fun w' => ∀ i : Nat, w'.cell? ⟨w1.heap.size, i, none⟩ = (#[.slice a3 xs.length cap3, .int .i64 e.p.root, .int .i64 e.p.deep, .int .i64 e.p.most, .int .i64 e.mode, .slice sa3 ms.length scap3, .int .u64 e.bits, .int .i64 e.have_, .int .i64 e.start, .int .i64 e.at_, .int .i64 e.field.number, .int .i64 e.field.kind, .bool e.field.rep, .bool e.field.packed, .int .i64 e.field.msg, .int .i64 e.wire, .int .i64 e.want, .int .i64 e.utf.want, .int .i64 e.utf.low, .int .i64 e.utf.high, .int .i64 e.end_.kind, .int .i64 e.end_.field, .int .u64 e.end_.bits, .int .i64 e.end_.len, .string e.end_.text, .int .i64 e.end_.code, .int .i64 e.end_.at_, .slice ea3 es.length ecap3] : Array Value)[i]?) (fun _ => false) (by kernel_rfl) ?_
    have hS : (fun w' : World => ∀ i : Nat, w'.cell? ⟨w1.heap.size, i, none⟩ = (#[.slice a3 xs.length cap3, .int .i64 e.p.root, .int .i64 e.p.deep, .int .i64 e.p.most, .int .i64 e.mode, .slice sa3 ms.length scap3, .int .u64 e.bits, .int .i64 e.have_, .int .i64 e.start, .int .i64 e.at_, .int .i64 e.field.number, .int .i64 e.field.kind, .bool e.field.rep, .bool e.field.packed, .int .i64 e.field.msg, .int .i64 e.wire, .int .i64 e.want, .int .i64 e.utf.want, .int .i64 e.utf.low, .int .i64 e.utf.high, .int .i64 e.end_.kind, .int .i64 e.end_.field, .int .u64 e.end_.bits, .int .i64 e.end_.len, .string e.end_.text, .int .i64 e.end_.code, .int .i64 e.end_.at_, .slice ea3 es.length ecap3] : Array Value)[i]?) w3.drew := kM
    clear kM
    refine tk (i := 0) hS ?_
    refine tk (i := 1) hS ?_
    refine tk (i := 2) hS ?_
    refine' wpTill_take (i := 3) (oi := _) (v := _) rfl (by kernel_rfl) (by kernel_rfl) (by kernel_rfl) (by kernel_rfl) (fun _ _ _ h => h) (yieldsIf_load_mid (by rfl) _ _ rfl _ _ rfl (Dc.cl e (.slice a3 xs.length cap3) (.slice sa3 ms.length scap3)) _ (fun wq hq => fun j u hj => (hq (0 + j)).trans (by rw [Nat.zero_add, List.getElem?_toArray]; exact pre_at hj)) Tryz.underlying40 rfl size_Dec) hS ?_
    try simp only [List.getElem_toArray, List.getElem_cons_succ, List.getElem_cons_zero, Act.put, List.setIfInBounds_toArray, List.set_cons_zero, List.set_cons_succ]
    refine tk (i := 4) hS ?_
    refine tk (i := 5) hS ?_
    refine tk (i := 6) hS ?_
    refine tk (i := 7) hS ?_
    refine wpTill_op (i := 8) (by kernel_rfl) rfl (fun K hK => ?_)
    refine step_store_row rfl 40 (.tmp 2) (.tmp 46) rfl (w.heap.size + 1) (Dc.cl e (.slice a3 xs.length cap3) (.slice sa3 ms.length scap3)).toArray rfl rfl 40 dz0.toArray HRn.out size_Dec rfl (by simp [Value.oneCell']) ?_
    have hS1 : (fun w' : World => ∀ i : Nat, w'.cell? ⟨w1.heap.size, i, none⟩ = (#[.slice a3 xs.length cap3, .int .i64 e.p.root, .int .i64 e.p.deep, .int .i64 e.p.most, .int .i64 e.mode, .slice sa3 ms.length scap3, .int .u64 e.bits, .int .i64 e.have_, .int .i64 e.start, .int .i64 e.at_, .int .i64 e.field.number, .int .i64 e.field.kind, .bool e.field.rep, .bool e.field.packed, .int .i64 e.field.msg, .int .i64 e.wire, .int .i64 e.want, .int .i64 e.utf.want, .int .i64 e.utf.low, .int .i64 e.utf.high, .int .i64 e.end_.kind, .int .i64 e.end_.field, .int .u64 e.end_.bits, .int .i64 e.end_.len, .string e.end_.text, .int .i64 e.end_.code, .int .i64 e.end_.at_, .slice ea3 es.length ecap3] : Array Value)[i]?) (w3.drew.setRow (w.heap.size + 1) (Dc.cl e (.slice a3 xs.length cap3) (.slice sa3 ms.length scap3)).toArray) := fun i => (World.cell?_of_block (a := ⟨w1.heap.size, i, none⟩) (setRow_other _ _ _ _ (by simp; omega))).trans (hS i)
    refine hK.out _ _ (fun _ => hS1) ?_
    clear hK K
    try simp only [List.getElem_toArray, List.getElem_cons_succ, List.getElem_cons_zero, Act.put, List.setIfInBounds_toArray, List.set_cons_zero, List.set_cons_succ]
    refine wpTill_op (i := 9) (by kernel_rfl) rfl (fun K hK => ?_)
    go_simp
    refine hK.out _ _ (fun _ => hS1) ?_
    clear hK K
    refine wpTill_done (by kernel_rfl) ?_ _
    go_wp2
    rw [HO3.out]
    refine finDE (w := w) (R := w.heap.size + 1) (base := w.heap.size + 1 + 1) (e := e) (ms := ms) (es := es) (rs := rs3) (a := a3) (cap := cap3) (sa := sa3) (scap := scap3) (ea := ea3) (ecap := ecap3) Tryz.results26 rfl rfl ?_ ?_ ?_ ?_ ?_ (by omega)
    ·exact hset_row (cs := dz0.toArray) HRn.out
    ·refine OwnShs.setRow (H3.out.sh.drew) ?_ _; omega
    ·refine owns_setRow (w := w3.drew) H3.out.lv ?_ _; omega
    ·refine owns_setRow (w := w3.drew) H3.out.ev ?_ _; omega
    ·have hbx : Below w.heap.size w w3 := hb1b.trans (H3.out.bel.mono (by omega))
     exact bl
set_option maxRecDepth 100000 in
set_option maxHeartbeats 3000000 in
theorem specFinish_any (d : Dc) (a : Option Addr) (cap : Nat) (xs : List Shp) (sa : Option Addr) (scap : Nat) (ls : List Lvl) (w : World) (h : ShsC w a xs) (h' : Lvls w sa ls) (hn : xs.length ≤ 1048576) (hm : fldSum xs ≤ 1048576) (hm' : ls.length ≤ 1048576) (hnil : sa = none → scap = 0) :
  Calls Tryz.prog 27 #[d.val (.slice a xs.length cap) (.slice sa ls.length scap)] w (FreshDE w 77 34 67 38 xs (finO d xs ls)) := by
 have HSs := Lib.hid h; clear h
 have HSl := Lib.hid h'; clear h'
 obtain ⟨O, hO⟩ : ∃ O, finO d xs ls = O := ⟨_, rfl⟩
 rw [hO]
 have HO := Lib.hid hO; clear hO
 go_enter Tryz.func27, Tryz.ntmps27
 go_wp2_with (first | (refine wlm w.heap.size (Dc.cl d (.slice a xs.length cap) (.slice sa ls.length scap)) (range_of_box (t := 40) (hset_alloc (hset_new rfl))) ?_))
 refine (l14Copy_any d a cap xs sa scap ls _ (HSs.out.keep bl) (Sl.keep HSl.out bl) hn hm hm' hnil).mono ?_
 rintro r w1 ⟨a1, cap1, rs1, sa1, scap1, rfl, ho1, hp1, hb1⟩
 have hz1 := hb1.size
 simp only [World.size_alloc] at hz1
 have hA_ : w1.heap[w.heap.size]? = some (.cells (Dc.cl d (.slice a xs.length cap) (.slice sa ls.length scap)).toArray 40 (0, 0)) := (hb1.block _ (by simp; omega)).trans (hset_alloc (hset_new rfl))
 have hR_ : w1.heap[w.heap.size + 1]? = some (.cells dz0.toArray 40 (0, 0)) := (hb1.block _ (by simp)).trans (hset_new (by simp))
 have hb1b : Below w.heap.size w w1 := by exact bl
 have P1 := Lib.hid (OwnShs.le ho1 (show w.heap.size + 1 + 1 ≤ _ by simp)); clear ho1
 have P2 := Lib.hid (owns_le hp1 (show w.heap.size + 1 + 1 ≤ _ by simp)); clear hp1
 have HA := Lib.hid hA_; clear hA_
 have HR := Lib.hid hR_; clear hR_ hb1
 have HSs2 := Lib.hid (ShsC.keep HSs.out hb1b); clear HSs
 have HSl2 := Lib.hid (Sl.keep HSl.out hb1b); clear HSl
 have kA := box_cells HA.out; have hBA := box_lt HA.out
 go_wp2_with (first
  | (refine wsq w1.heap.size (Dc.cl d (.slice a1 xs.length cap1) (.slice sa1 ls.length scap1)).toArray (hset_new rfl) (one_Dec _ _ _ _ _ _ _) ?_)
  | (refine wlm w.heap.size (Dc.cl d (.slice a xs.length cap) (.slice sa ls.length scap)) (range_of_cells (box_next (w := w1) bl hBA kA)) ?_))
 refine (specDecOk_any d a cap _ xs sa scap _ ls _ (HSs2.out.shs.keep bl) (Sl.keep HSl2.out bl) rfl rfl hn hm hm').mono ?_
 rintro r w2 ⟨rfl, hb2⟩
 have hb12 : Below w1.heap.size w1 w2 := by exact bl
 have hz2 := hb2.size
 simp only [World.size_alloc, size_setRow] at hz2
 have HX := Lib.hid ((hb2.block w1.heap.size (by simp)).trans (hset_row (cs := dz0.toArray) (cs' := (Dc.cl d (.slice a1 xs.length cap1) (.slice sa1 ls.length scap1)).toArray) (t := 40) (hset_new rfl))); clear hb2
 have P1_ := Lib.hid (P1.out.chain hb12 (Nat.le_refl _)); clear P1; have P1 := P1_; clear P1_
 have P2_ := Lib.hid (owns_below P2.out hb12 (Nat.le_refl _)); clear P2; have P2 := P2_; clear P2_
 have HA2 := Lib.hid ((hb12.block _ hBA).trans HA.out); clear HA kA hBA
 have HR2 := Lib.hid ((hb12.block _ (by omega)).trans HR.out); clear HR
 have HR := HR2; clear HR2
 have kA := box_cells HA2.out; have hBA := box_lt HA2.out
 have hbw2 : Below w.heap.size w w2 := hb1b.trans (hb12.mono (by omega))
 cases hk : decOk d xs ls
 ·skip
  have HO3 := Lib.hid (show O = (d, ls, ([] : List Ev)) from by rw [← HO.out]; simp only [finO, hk]; rfl)
  go_wp2_with (first | (refine wlm w1.heap.size (Dc.cl d (.slice a1 xs.length cap1) (.slice sa1 ls.length scap1)) (range_of_box (t := 40) HX.out) ?_) | (refine wsq (w.heap.size + 1) (Dc.cl d (.slice a1 xs.length cap1) (.slice sa1 ls.length scap1)).toArray (hset_alloc HR.out) (one_Dec _ _ _ _ _ _ _) ?_))
  rw [HO3.out]
  refine finDE (w := w) (R := w.heap.size + 1) (base := w.heap.size + 1 + 1) (e := d) (ms := ls) (es := ([] : List Ev)) (rs := rs1) (a := a1) (cap := cap1) (sa := sa1) (scap := scap1) (ea := some ⟨w2.heap.size, 0, none⟩) (ecap := 0) Tryz.results27 rfl rfl ?_ ?_ ?_ ?_ ?_ (by omega)
  ·exact hset_row (cs := dz0.toArray) (hset_alloc HR.out)
  ·refine OwnShs.setRow (P1.out.alloc _) ?_ _; omega
  ·refine owns_setRow (P2.out.alloc _) ?_ _; omega
  ·have q3 := owns_le (own_built w2 38 7) (show w.heap.size + 1 + 1 ≤ w2.heap.size by omega)
   refine owns_setRow q3 ?_ _; omega
  ·exact bl
 ·by_cases h9 : d.mode = 9
  ·skip
   have HO3 := Lib.hid (show O = (d, ls, ([] : List Ev)) from by rw [← HO.out, finO, if_neg (fun hh => hh.2 h9)])
   have h9d : (d.mode == 9) = true := by simp [h9]
   clear h9
   go_wp2_with (first | (refine wlm w1.heap.size (Dc.cl d (.slice a1 xs.length cap1) (.slice sa1 ls.length scap1)) (range_of_box (t := 40) HX.out) ?_) | (refine wsq (w.heap.size + 1) (Dc.cl d (.slice a1 xs.length cap1) (.slice sa1 ls.length scap1)).toArray (hset_alloc HR.out) (one_Dec _ _ _ _ _ _ _) ?_))
   rw [HO3.out]
   refine finDE (w := w) (R := w.heap.size + 1) (base := w.heap.size + 1 + 1) (e := d) (ms := ls) (es := ([] : List Ev)) (rs := rs1) (a := a1) (cap := cap1) (sa := sa1) (scap := scap1) (ea := some ⟨w2.heap.size, 0, none⟩) (ecap := 0) Tryz.results27 rfl rfl ?_ ?_ ?_ ?_ ?_ (by omega)
   ·exact hset_row (cs := dz0.toArray) (hset_alloc HR.out)
   ·refine OwnShs.setRow (P1.out.alloc _) ?_ _; omega
   ·refine owns_setRow (P2.out.alloc _) ?_ _; omega
   ·have q3 := owns_le (own_built w2 38 7) (show w.heap.size + 1 + 1 ≤ w2.heap.size by omega)
    refine owns_setRow q3 ?_ _; omega
   ·exact bl
  ·have HOO : Hid (O = if atBoundary d xs ls = true then (doneD d, ls, [doneE d.at_]) else failO d ls 10 d.at_) := Lib.hid (by rw [← HO.out, finO, if_pos ⟨hk, h9⟩])
   have h9d : (d.mode == 9) = false := by simp [h9]
   clear h9
   go_wp2_with (first | (refine wlm w.heap.size (Dc.cl d (.slice a xs.length cap) (.slice sa ls.length scap)) (range_of_cells kA) ?_))
   refine (specAtBoundary_any d a cap _ xs sa scap _ ls _ (HSs2.out.shs.keep hb12) (Sl.keep HSl2.out hb12) rfl rfl hn hm hm').mono ?_
   rintro r w4 ⟨rfl, hb4⟩
   have hz4 := hb4.size
   have HX4 := Lib.hid ((hb4.block _ (by omega)).trans HX.out); clear HX; have HX := HX4; clear HX4
   have P1_ := Lib.hid (P1.out.chain hb4 (Nat.le_refl _)); clear P1; have P1 := P1_; clear P1_
   have P2_ := Lib.hid (owns_below P2.out hb4 (Nat.le_refl _)); clear P2; have P2 := P2_; clear P2_
   have HA4 := Lib.hid ((hb4.block _ hBA).trans HA2.out); clear HA2 kA hBA
   have HR2 := Lib.hid ((hb4.block _ (by omega)).trans HR.out); clear HR; have HR := HR2; clear HR2
   have kA := box_cells HA4.out; have hBA := box_lt HA4.out
   have hbw4 : Below w.heap.size w w4 := hbw2.trans (hb4.mono (by omega))
   cases hb : atBoundary d xs ls
   ·skip
    have HO3 := Lib.hid (show O = (failD d 10 d.at_, ls, [failE 10 d.at_]) from by rw [HOO.out, hb]; rfl)
    go_wp2_with (first | (refine wlm w1.heap.size (Dc.cl d (.slice a1 xs.length cap1) (.slice sa1 ls.length scap1)) (range_of_box (t := 40) HX.out) ?_))
    refine (l15Fail_any d a1 cap1 _ sa1 scap1 _ 10 d.at_ _).mono ?_
    rintro r w3 ⟨ea, ecap, rfl, ho3, hb3⟩
    have hz3 := hb3.size
    have HR3 := Lib.hid ((hb3.block _ (by omega)).trans HR.out); clear HR
    have P3 := Lib.hid ho3; clear ho3
    go_wp2_with (first | (refine wsr (w.heap.size + 1) (c1110 (.slice a1 xs.length cap1) (.slice sa1 ls.length scap1) d.p 9 0 0 d.start d.at_ d.field d.wire 0 d.utf 10 0 0 0 ⟨#[]⟩ 10 d.at_).toArray HR3.out ?_))
    rw [HO3.out]
    refine finDE (w := w) (R := w.heap.size + 1) (base := w.heap.size + 1 + 1) (e := failD d 10 d.at_) (ms := ls) (es := [failE 10 d.at_]) (rs := rs1) (a := a1) (cap := cap1) (sa := sa1) (scap := scap1) (ea := ea) (ecap := ecap) Tryz.results27 rfl rfl ?_ ?_ ?_ ?_ ?_ (by omega)
    ·exact hset_row (cs := dz0.toArray) HR3.out
    ·refine OwnShs.setRow (P1.out.chain hb3 (Nat.le_refl _)) ?_ _; omega
    ·refine owns_setRow (owns_below P2.out hb3 (Nat.le_refl _)) ?_ _; omega
    ·have q3 := owns_le P3.out (show w.heap.size + 1 + 1 ≤ w4.heap.size by omega)
     refine owns_setRow q3 ?_ _; omega
    ·exact bl
   ·skip
    have HO3 := Lib.hid (show O = (doneD d, ls, [doneE d.at_]) from by rw [HOO.out, hb]; rfl)
    have kX := box_cells HX.out; have fX := box_frozen HX.out; have hBX := box_lt HX.out
    go_wp2_with fail
    generalize hw5 : World.setCell _ (⟨w1.heap.size, 26, none⟩ : Addr) (.int .i64 d.at_) = w5
    have hX5 : w5.heap[w1.heap.size]? = some (.cells (c1110 (.slice a1 xs.length cap1) (.slice sa1 ls.length scap1) d.p 9 d.bits d.have_ d.start d.at_ d.field d.wire d.want d.utf 9 0 0 0 ⟨#[]⟩ 0 d.at_).toArray 40 (0, 0)) := by rw [← hw5]; apply hset_eq; (repeat (first | (with_reducible exact HX.out) | (with_reducible apply hset_set))); simp only [List.setIfInBounds_toArray, List.set_cons_zero, List.set_cons_succ]
    have hR5 : w5.heap[w.heap.size + 1]? = some (.cells dz0.toArray 40 (0, 0)) := by rw [← hw5]; (repeat (first | (with_reducible exact HR.out) | (with_reducible refine hset_other ?_ (by simp; omega))))
    have hG5 : w4.grownBy w5 (some w1.heap.size) := by rw [← hw5]; (repeat (with_reducible refine only_cell ?_ _ _)); exact only_refl _ _
    have hz5 : w5.heap.size = w4.heap.size := by rw [← hw5]; simp
    have hb5 : Below w.heap.size w w5 := below_grown hbw4 hG5 (fun g e => by obtain rfl := Option.some.inj e; omega) (by omega)
    clear hw5 kX fX hBX kA hBA HA4
    have Q1 := Lib.hid (P1.out.keepBy hG5 (other_box HX.out (by decide)) (other_box HX.out (by decide)))
    have Q2 := Lib.hid (owns_keep P2.out hG5 (other_box HX.out (by decide)))
    clear P1 P2 hG5
    have kX := box_cells hX5
    have HR5 := Lib.hid hR5; clear hR5
    refine wp_region_till (fun w' : World => ∀ i : Nat, w'.cell? ⟨w1.heap.size, i, none⟩ = ((c1110 (.slice a1 xs.length cap1) (.slice sa1 ls.length scap1) d.p 9 d.bits d.have_ d.start d.at_ d.field d.wire d.want d.utf 9 0 0 0 ⟨#[]⟩ 0 d.at_).toArray : Array Value)[i]?) (fun _ => false) (by kernel_rfl) ?_
    have hS : (fun w' : World => ∀ i : Nat, w'.cell? ⟨w1.heap.size, i, none⟩ = ((c1110 (.slice a1 xs.length cap1) (.slice sa1 ls.length scap1) d.p 9 d.bits d.have_ d.start d.at_ d.field d.wire d.want d.utf 9 0 0 0 ⟨#[]⟩ 0 d.at_).toArray : Array Value)[i]?) w5.drew := kX
    refine' wpTill_take (i := 0) (oi := _) (v := _) rfl (by kernel_rfl) (by kernel_rfl) (by kernel_rfl) (by kernel_rfl) (fun _ _ _ h => h) (yieldsIf_load_mid (by rfl) _ _ rfl _ _ rfl (c1110 (.slice a1 xs.length cap1) (.slice sa1 ls.length scap1) d.p 9 d.bits d.have_ d.start d.at_ d.field d.wire d.want d.utf 9 0 0 0 ⟨#[]⟩ 0 d.at_) _ (fun wq hq => range_of_cells hq) Tryz.underlying40 rfl size_Dec) hS ?_
    try simp only [List.getElem_toArray, List.getElem_cons_succ, List.getElem_cons_zero, Act.put, List.setIfInBounds_toArray, List.set_cons_zero, List.set_cons_succ]
    refine tk (i := 1) hS ?_
    refine tk (i := 2) hS ?_
    refine wpTill_two (i := 3) (j := 4) (by kernel_rfl) rfl rfl (fun K hK => ?_) (fun K hK => ?_)
    ·go_simp
     have hS1 : (fun w' : World => ∀ i : Nat, w'.cell? ⟨w1.heap.size, i, none⟩ = ((c1110 (.slice a1 xs.length cap1) (.slice sa1 ls.length scap1) d.p 9 d.bits d.have_ d.start d.at_ d.field d.wire d.want d.utf 9 0 0 0 ⟨#[]⟩ 0 d.at_).toArray : Array Value)[i]?) (w5.alloc (.cells #[.int .i64 9, .int .i64 0, .int .u64 0, .int .i64 0, .string ⟨#[]⟩, .int .i64 0, .int .i64 d.at_] 38)).drew := fun i => (World.cell?_alloc_lt _ _ _ (by simp; omega)).trans (hS i)
     refine hK.out _ _ (fun _ => hS1) ?_
     clear hK K
     try simp only [List.getElem_toArray, List.getElem_cons_succ, List.getElem_cons_zero, Act.put, List.setIfInBounds_toArray, List.set_cons_zero, List.set_cons_succ]
     refine wpTill_op (i := 4) (by kernel_rfl) rfl (fun K hK => ?_)
     refine step_store_row rfl 40 _ _ rfl (w.heap.size + 1) (c1110 (.slice a1 xs.length cap1) (.slice sa1 ls.length scap1) d.p 9 d.bits d.have_ d.start d.at_ d.field d.wire d.want d.utf 9 0 0 0 ⟨#[]⟩ 0 d.at_).toArray rfl rfl 40 dz0.toArray (hset_alloc HR5.out) size_Dec rfl (by simp [Value.oneCell']) ?_
     have hS2 := fun i => (World.cell?_of_block (w := (w5.alloc (.cells #[.int .i64 9, .int .i64 0, .int .u64 0, .int .i64 0, .string ⟨#[]⟩, .int .i64 0, .int .i64 d.at_] 38)).drew) (w' := (w5.alloc (.cells #[.int .i64 9, .int .i64 0, .int .u64 0, .int .i64 0, .string ⟨#[]⟩, .int .i64 0, .int .i64 d.at_] 38)).drew.setRow (w.heap.size + 1) (c1110 (.slice a1 xs.length cap1) (.slice sa1 ls.length scap1) d.p 9 d.bits d.have_ d.start d.at_ d.field d.wire d.want d.utf 9 0 0 0 ⟨#[]⟩ 0 d.at_).toArray) (a := ⟨w1.heap.size, i, none⟩) (setRow_other _ _ _ _ (by simp; omega))).trans (hS1 i)
     refine hK.out _ _ (fun _ => hS2) ?_
     clear hK K
     try simp only [List.getElem_toArray, List.getElem_cons_succ, List.getElem_cons_zero, Act.put, List.setIfInBounds_toArray, List.set_cons_zero, List.set_cons_succ]
     refine wpTill_op (i := 5) (by kernel_rfl) rfl (fun K hK => ?_)
     go_simp
     refine hK.out _ _ (fun _ => hS2) ?_
     clear hK K
     refine wpTill_done (by kernel_rfl) ?_ _
     go_wp2
     rw [HO3.out]
     refine finDE (w := w) (R := w.heap.size + 1) (base := w.heap.size + 1 + 1) (e := doneD d) (ms := ls) (es := [doneE d.at_]) (rs := rs1) (a := a1) (cap := cap1) (sa := sa1) (scap := scap1) (ea := some ⟨w5.heap.size, 0, none⟩) (ecap := 1) Tryz.results27 rfl (by rw [hz5]; rfl) ?_ ?_ ?_ ?_ ?_ (by omega)
     ·exact hset_row (cs := dz0.toArray) (hset_alloc HR5.out)
     ·refine OwnShs.setRow (OwnShs.drew (Q1.out.alloc _)) ?_ _; omega
     ·refine owns_setRow (w := (w5.alloc _).drew) (Q2.out.alloc _) ?_ _; omega
     ·have q3 := owns_le (World.ownsRow.of_box w5 (doneE d.at_) 38) (show w.heap.size + 1 + 1 ≤ w5.heap.size by omega)
      refine owns_setRow (w := (w5.alloc _).drew) q3 ?_ _; omega
     ·exact bl
    ·refine step_store_row rfl 40 _ _ rfl (w.heap.size + 1) (c1110 (.slice a1 xs.length cap1) (.slice sa1 ls.length scap1) d.p 9 d.bits d.have_ d.start d.at_ d.field d.wire d.want d.utf 9 0 0 0 ⟨#[]⟩ 0 d.at_).toArray rfl rfl 40 dz0.toArray HR5.out size_Dec rfl (by simp [Value.oneCell']) ?_
     have hS1 : (fun w' : World => ∀ i : Nat, w'.cell? ⟨w1.heap.size, i, none⟩ = ((c1110 (.slice a1 xs.length cap1) (.slice sa1 ls.length scap1) d.p 9 d.bits d.have_ d.start d.at_ d.field d.wire d.want d.utf 9 0 0 0 ⟨#[]⟩ 0 d.at_).toArray : Array Value)[i]?) (w5.drew.setRow (w.heap.size + 1) (c1110 (.slice a1 xs.length cap1) (.slice sa1 ls.length scap1) d.p 9 d.bits d.have_ d.start d.at_ d.field d.wire d.want d.utf 9 0 0 0 ⟨#[]⟩ 0 d.at_).toArray) := fun i => (World.cell?_of_block (a := ⟨w1.heap.size, i, none⟩) (setRow_other _ _ _ _ (by simp; omega))).trans (hS i)
     refine hK.out _ _ (fun _ => hS1) ?_
     clear hK K
     try simp only [List.getElem_toArray, List.getElem_cons_succ, List.getElem_cons_zero, Act.put, List.setIfInBounds_toArray, List.set_cons_zero, List.set_cons_succ]
     refine wpTill_op (i := 3) (by kernel_rfl) rfl (fun K hK => ?_)
     go_simp
     have hS2 : (fun w' : World => ∀ i : Nat, w'.cell? ⟨w1.heap.size, i, none⟩ = ((c1110 (.slice a1 xs.length cap1) (.slice sa1 ls.length scap1) d.p 9 d.bits d.have_ d.start d.at_ d.field d.wire d.want d.utf 9 0 0 0 ⟨#[]⟩ 0 d.at_).toArray : Array Value)[i]?) ((w5.drew.setRow (w.heap.size + 1) (c1110 (.slice a1 xs.length cap1) (.slice sa1 ls.length scap1) d.p 9 d.bits d.have_ d.start d.at_ d.field d.wire d.want d.utf 9 0 0 0 ⟨#[]⟩ 0 d.at_).toArray).alloc (.cells #[.int .i64 9, .int .i64 0, .int .u64 0, .int .i64 0, .string ⟨#[]⟩, .int .i64 0, .int .i64 d.at_] 38)) := fun i => (World.cell?_alloc_lt _ _ _ (by simp; omega)).trans (hS1 i)
     refine hK.out _ _ (fun _ => hS2) ?_
     clear hK K
     try simp only [List.getElem_toArray, List.getElem_cons_succ, List.getElem_cons_zero, Act.put, List.setIfInBounds_toArray, List.set_cons_zero, List.set_cons_succ]
     refine wpTill_op (i := 5) (by kernel_rfl) rfl (fun K hK => ?_)
     go_simp
     refine hK.out _ _ (fun _ => hS2) ?_
     clear hK K
     refine wpTill_done (by kernel_rfl) ?_ _
     go_wp2
     rw [HO3.out]
     refine finDE (w := w) (R := w.heap.size + 1) (base := w.heap.size + 1 + 1) (e := doneD d) (ms := ls) (es := [doneE d.at_]) (rs := rs1) (a := a1) (cap := cap1) (sa := sa1) (scap := scap1) (ea := some ⟨w5.heap.size, 0, none⟩) (ecap := 1) Tryz.results27 rfl (by rw [hz5]; rfl) ?_ ?_ ?_ ?_ ?_ (by omega)
     ·exact hset_alloc (hset_row (cs := dz0.toArray) HR5.out)
     ·refine OwnShs.alloc (OwnShs.setRow Q1.out.drew ?_ _) _; omega
     ·refine World.ownsRow.alloc (owns_setRow (w := w5.drew) Q2.out ?_ _) _; omega
     ·have hq := World.ownsRow.of_box (w5.drew.setRow (w.heap.size + 1) (c1110 (.slice a1 xs.length cap1) (.slice sa1 ls.length scap1) d.p 9 d.bits d.have_ d.start d.at_ d.field d.wire d.want d.utf 9 0 0 0 ⟨#[]⟩ 0 d.at_).toArray) (doneE d.at_) 38
      simp only [size_setRow, World.size_drew] at hq
      exact owns_le hq (by omega)
     ·exact bl
end Go.Proofs.YtabdjimjelfbfaaGreat

/- Texts that FnSettle leans on, part 5. (Put together by wip/tools/bundle.py.) -/
import Derived.Test.YtabdjimjelfbfaaGreatSettle1
import Derived.Test.YtabdjimjelfbfaaGreatSettle2
import Derived.Test.YtabdjimjelfbfaaGreatSettle3
import Derived.Test.YtabdjimjelfbfaaGreatSettle4
namespace Go.Proofs.YtabdjimjelfbfaaGreat
set_option linter.unusedSimpArgs false
set_option linter.unusedVariables false
open Go.ChangeShapes Go.WideShapes Go.ChangeAt Go.RowKit Go.BigFrame
theorem only_rowT (w : World) (b : Nat) (cs : Array Value) : w.grownBy (w.setRow b cs) (some b) := ⟨rfl, rfl, rfl, by simp, fun k _ hk => setRow_other w b k cs (fun e => hk (by rw [e]))⟩
set_option maxHeartbeats 1000000 in
theorem specTagIn_any (u : Int) (w : World) (hu : (Lit.int .u64 u).wf = true) : Calls Tryz.prog 59 #[.int .u64 u] w fun r w' => r = .returned (.tuple #[.int .i64 (tagQ u), .int .i64 (tagV u), .bool (tagOk u)]) ∧ w = w' := by
 have hu0 := (WU64.lo hu)
 by_cases h1 : u < 8
 ·skip
  have hk : tagOk u = false := by simp only [tagOk, decide_eq_false_iff_not]; omega
  have hq : tagQ u = 0 := by simp [tagQ, hk]
  have hv : tagV u = 0 := by simp [tagV, hk]
  rw [hk, hq, hv]
  go_enter Tryz.func59, Tryz.ntmps59
  go_wp2
  exact bodyPost_ret (by simp [results, Tryz.results59, go_sem]) rfl ⟨rfl, rfl⟩
 ·by_cases h2 : 536870911 < u / 8
  ·skip
   have hk : tagOk u = false := by simp only [tagOk, decide_eq_false_iff_not]; omega
   have hq : tagQ u = 0 := by simp [tagQ, hk]
   have hv : tagV u = 0 := by simp [tagV, hk]
   rw [hk, hq, hv]
   have h3 : decide (4294967295 < u) = true := decide_eq_true (by omega)
   have h4 : decide (536870911 < u / 8) = true := decide_eq_true h2
   go_enter Tryz.func59, Tryz.ntmps59
   go_wp2
   exact bodyPost_ret (by simp [results, Tryz.results59, go_sem]) rfl ⟨rfl, rfl⟩
  ·have hk : tagOk u = true := by simp only [tagOk, decide_eq_true_eq]; omega
   have hq : tagQ u = u / 8 := by simp [tagQ, hk]
   have hv : tagV u = u % 8 := by simp [tagV, hk]
   rw [hk, hq, hv]
   have h3 : decide (4294967295 < u) = false := decide_eq_false (by omega)
   have h4 : decide (536870911 < u / 8) = false := decide_eq_false h2
   have e1 : IntKind.i64.wrap (u / 8) = u / 8 := IntWalk.i64_in _ (by omega)
   have e2 : IntKind.i64.wrap (u % 8) = u % 8 := IntWalk.i64_in _ (by omega)
   go_enter Tryz.func59, Tryz.ntmps59
   go_wp2
   exact bodyPost_ret (by simp [results, Tryz.results59, go_sem]) rfl ⟨rfl, rfl⟩
set_option maxRecDepth 100000 in
set_option maxHeartbeats 6000000 in
theorem specTag_any (d : Dc) (a : Option Addr) (cap : Nat) (xs : List Shp) (sa : Option Addr) (scap : Nat) (ls : List Lvl) (u : Int) (w : World) (h : ShsC w a xs) (h' : Lvls w sa ls) (hn : xs.length ≤ 1048576) (hm : fldSum xs ≤ 1048576) (hm' : ls.length ≤ 1048576) (hnil : sa = none → scap = 0) (hu : (Lit.int .u64 u).wf = true) :
  Calls Tryz.prog 24 #[d.val (.slice a xs.length cap) (.slice sa ls.length scap), .int .u64 u] w (FreshDE w 77 34 67 38 xs (tagO d xs ls u)) := by
 have HSs := Lib.hid h; clear h
 have HSl := Lib.hid h'; clear h'
 go_enter Tryz.func24, Tryz.ntmps24
 go_wp2_with (first | ((with_reducible refine gl ?_); refine wlm w.heap.size (Dc.cl d (.slice a xs.length cap) (.slice sa ls.length scap)) (range_of_box (t := 40) (hset_alloc (hset_new rfl))) ?_))
 refine (l14Copy_any d a cap xs sa scap ls _ (HSs.out.keep bl) (Sl.keep HSl.out bl) hn hm hm' hnil).mono ?_
 rintro r w1 ⟨a1, cap1, rs1, sa1, scap1, rfl, ho1, hp1, hb1⟩
 have hz1 := hb1.size
 simp only [World.size_alloc] at hz1
 have hA_ : w1.heap[w.heap.size]? = some (.cells (Dc.cl d (.slice a xs.length cap) (.slice sa ls.length scap)).toArray 40 (0, 0)) := (hb1.block _ (by simp; omega)).trans (hset_alloc (hset_new rfl))
 have hR_ : w1.heap[w.heap.size + 1]? = some (.cells dz0.toArray 40 (0, 0)) := (hb1.block _ (by simp)).trans (hset_new (by simp))
 have hb1b : Below w.heap.size w w1 := by exact bl
 have P1 := Lib.hid (OwnShs.le ho1 (show w.heap.size + 1 + 1 ≤ _ by simp)); clear ho1
 have P2 := Lib.hid (owns_le hp1 (show w.heap.size + 1 + 1 ≤ _ by simp)); clear hp1 hb1
 have HA := Lib.hid hA_; clear hA_
 have HR := Lib.hid hR_; clear hR_
 go_wp2_with (first | ((with_reducible refine gs ?_); refine wsq w1.heap.size (Dc.cl d (.slice a1 xs.length cap1) (.slice sa1 ls.length scap1)).toArray (hset_new rfl) (one_Dec _ _ _ _ _ _ _) ?_) | ((with_reducible refine gl ?_); refine wlm w.heap.size (Dc.cl d (.slice a xs.length cap) (.slice sa ls.length scap)) (range_of_box (t := 40) (hset_row_other (hset_alloc HA.out) (by omega))) ?_))
 have hbx : Below w1.heap.size w1 ((w1.alloc (.cells dz0.toArray 40)).setRow w1.heap.size (Dc.cl d (.slice a1 xs.length cap1) (.slice sa1 ls.length scap1)).toArray) := by exact bl
 have hO_ : ((w1.alloc (.cells dz0.toArray 40)).setRow w1.heap.size (Dc.cl d (.slice a1 xs.length cap1) (.slice sa1 ls.length scap1)).toArray).heap[w1.heap.size]? = some (.cells (Dc.cl d (.slice a1 xs.length cap1) (.slice sa1 ls.length scap1)).toArray 40 (0, 0)) := hset_row (cs := dz0.toArray) (hset_new rfl)
 obtain ⟨w2, hw2⟩ : ∃ w2, w2 = (w1.alloc (.cells dz0.toArray 40)).setRow w1.heap.size (Dc.cl d (.slice a1 xs.length cap1) (.slice sa1 ls.length scap1)).toArray := ⟨_, rfl⟩
 rw [← hw2] at hbx hO_ ⊢
 clear hw2
 have hlO := box_lt hO_
 have hb2b : Below w.heap.size w w2 := hb1b.trans (hbx.mono (by omega))
 refine (l15Ok_any d a cap _ xs sa scap _ ls _ (HSs.out.shs.keep hb2b) (Sl.keep HSl.out hb2b) rfl rfl hn hm hm').mono ?_
 rintro r w3 ⟨rfl, hb3⟩
 have hz3 := hb3.size
 have hb13 : Below w1.heap.size w1 w3 := hbx.trans (hb3.mono (by omega))
 have HO := Lib.hid ((hb3.block _ hlO).trans hO_); clear hO_ hbx
 have HA3 := Lib.hid ((hb13.block _ (by omega)).trans HA.out); clear HA
 have HR3 := Lib.hid ((hb13.block _ (by omega)).trans HR.out); clear HR
 have Q1 := Lib.hid (P1.out.chain hb13 (Nat.le_refl _)); clear P1
 have Q2 := Lib.hid (owns_below P2.out hb13 (Nat.le_refl _)); clear P2
 have hbw : Below w.heap.size w w3 := hb2b.trans (hb3.mono (by have := hb2b.size; omega))
 clear hb13 hb3 hb2b hb1b
 have kA := box_cells HA3.out; have fA := box_frozen HA3.out; have hBA := box_lt HA3.out
 have kO := box_cells HO.out; have fO := box_frozen HO.out; have hBO := box_lt HO.out
 cases hok : lvOk d xs ls
 ·have HO2 : Hid (tagO d xs ls u = (d, ls, [])) := Lib.hid (tagO_no hok)
  go_wp2_with (first | ((with_reducible refine gl ?_); refine wlm w1.heap.size (Dc.cl d (.slice a1 xs.length cap1) (.slice sa1 ls.length scap1)) (range_of_box (t := 40) HO.out) ?_) | ((with_reducible refine gs ?_); refine wsr (w.heap.size + 1) (Dc.cl d (.slice a1 xs.length cap1) (.slice sa1 ls.length scap1)).toArray (hset_alloc HR3.out) ?_))
  rw [HO2.out]
  refine finDE (w := w) (R := w.heap.size + 1) (base := w.heap.size + 1 + 1) (e := d) (ms := ls) (es := ([] : List Ev)) (rs := rs1) (a := a1) (cap := cap1) (sa := sa1) (scap := scap1) (ea := some ⟨w3.heap.size, 0, none⟩) (ecap := 0) Tryz.results24 ?_ ?_ ?_ ?_ ?_ ?_ ?_ (by omega)
  ·rfl
  ·rfl
  ·exact hset_row (cs := dz0.toArray) (hset_alloc HR3.out)
  ·exact OwnShs.setRow (Q1.out.alloc _) (by omega) _
  ·exact owns_setRow (Q2.out.alloc _) (by omega) _
  ·exact owns_setRow (owns_le (own_built w3 38 7) (by omega)) (by omega) _
  ·exact bl
 ·go_wp2_with fail
  generalize hw4 : World.setCell _ (⟨w1.heap.size, 7, none⟩ : Addr) (.int .i64 0) = w4
  have hO4 : w4.heap[w1.heap.size]? = some (.cells (c1111 (.slice a1 xs.length cap1) (.slice sa1 ls.length scap1) d.p d.mode 0 0 d.start d.at_ d.field d.wire d.want d.utf d.end_).toArray 40 (0, 0)) := by rw [← hw4]; apply hset_eq; (repeat (first | (with_reducible exact HO.out) | (with_reducible apply hset_set))); simp only [List.setIfInBounds_toArray, List.set_cons_zero, List.set_cons_succ]
  have hG4 : w3.grownBy w4 (some w1.heap.size) := by rw [← hw4]; (repeat (with_reducible refine only_cell ?_ _ _)); exact only_refl _ _
  clear hw4 kO fO hBO
  have hz4 := hG4.size
  have HA4 := Lib.hid ((hG4.block _ hBA (by simp; omega)).trans HA3.out); clear kA fA hBA HA3
  have Q1b := Lib.hid (Q1.out.keepBy hG4 (other_box HO.out (by decide)) (other_box HO.out (by decide))); clear Q1; have Q1 := Q1b; clear Q1b
  have Q2b := Lib.hid (owns_keep Q2.out hG4 (other_box HO.out (by decide))); clear Q2; have Q2 := Q2b; clear Q2b
  have HR4 := Lib.hid ((hG4.block _ (by omega) (by simp; omega)).trans HR3.out); clear HR3
  have hbw4 : Below w.heap.size w w4 := below_grown hbw hG4 (fun g e => by have := Option.some.inj e; omega) (by omega)
  clear HO hG4 hbw
  have HO4 := Lib.hid hO4; clear hO4
  have kA := box_cells HA4.out; have fA := box_frozen HA4.out; have hBA := box_lt HA4.out
  have kO := box_cells HO4.out; have fO := box_frozen HO4.out; have hBO := box_lt HO4.out
  refine (specTagIn_any u _ hu).mono ?_
  rintro r _ ⟨rfl, rfl⟩
  cases htk : tagOk u
  ·have hbad : u < 8 ∨ 536870911 < u / 8 ∨ ls = [] := by simp only [tagOk, decide_eq_false_iff_not] at htk; omega
   have HO2 := Lib.hid (tagO_bad hok hbad)
   go_wp2_with (first | ((with_reducible refine gl ?_); refine wlm w1.heap.size (c1111 (.slice a1 xs.length cap1) (.slice sa1 ls.length scap1) d.p d.mode 0 0 d.start d.at_ d.field d.wire d.want d.utf d.end_) (range_of_box (t := 40) HO4.out) ?_))
   refine (l15Fail_any (scan0 d) a1 cap1 xs.length sa1 scap1 ls.length 2 d.start _).mono ?_
   rintro r w7 ⟨ea, ecap, rfl, ho7, hb7⟩
   have hz7 := hb7.size
   have Q1b := Lib.hid (Q1.out.chain hb7 (Nat.le_refl _)); clear Q1
   have Q2b := Lib.hid (owns_below Q2.out hb7 (Nat.le_refl _)); clear Q2
   have Q3 := Lib.hid (owns_le ho7 (show w.heap.size + 1 + 1 ≤ _ by omega)); clear ho7
   have HR7 := Lib.hid ((hb7.block _ (by omega)).trans HR4.out); clear HR4
   have hbw7 : Below w.heap.size w w7 := hbw4.trans (hb7.mono (by omega))
   go_wp2_with (first | ((with_reducible refine gs ?_); refine wsr (w.heap.size + 1) (c1110 (.slice a1 xs.length cap1) (.slice sa1 ls.length scap1) d.p 9 0 0 d.start d.at_ d.field d.wire 0 d.utf 10 0 0 0 ⟨#[]⟩ 2 d.start).toArray HR7.out ?_))
   rw [HO2.out, failO]
   refine finDE (w := w) (R := w.heap.size + 1) (base := w.heap.size + 1 + 1) (e := failD (scan0 d) 2 d.start) (ms := ls) (es := [failE 2 d.start]) (rs := rs1) (a := a1) (cap := cap1) (sa := sa1) (scap := scap1) (ea := ea) (ecap := ecap) Tryz.results24 ?_ ?_ ?_ ?_ ?_ ?_ ?_ (by omega)
   ·rfl
   ·rfl
   ·exact hset_row (cs := dz0.toArray) HR7.out
   ·exact OwnShs.setRow Q1b.out (by omega) _
   ·exact owns_setRow Q2b.out (by omega) _
   ·exact owns_setRow Q3.out (by omega) _
   ·exact bl
  ·by_cases hls : ls = []
   ·have hl0 : ((ls.length : Int) == 0) = true := by rw [hls]; rfl
    have HLS := Lib.hid hls; clear hls
    have HO2 := Lib.hid (tagO_bad (u := u) hok (.inr (.inr HLS.out)))
    go_wp2_with (first | ((with_reducible refine gl ?_); refine wlm w1.heap.size (c1111 (.slice a1 xs.length cap1) (.slice sa1 ls.length scap1) d.p d.mode 0 0 d.start d.at_ d.field d.wire d.want d.utf d.end_) (range_of_box (t := 40) HO4.out) ?_))
    refine (l15Fail_any (scan0 d) a1 cap1 xs.length sa1 scap1 ls.length 2 d.start _).mono ?_
    rintro r w7 ⟨ea, ecap, rfl, ho7, hb7⟩
    have hz7 := hb7.size
    have Q1b := Lib.hid (Q1.out.chain hb7 (Nat.le_refl _)); clear Q1
    have Q2b := Lib.hid (owns_below Q2.out hb7 (Nat.le_refl _)); clear Q2
    have Q3 := Lib.hid (owns_le ho7 (show w.heap.size + 1 + 1 ≤ _ by omega)); clear ho7
    have HR7 := Lib.hid ((hb7.block _ (by omega)).trans HR4.out); clear HR4
    have hbw7 : Below w.heap.size w w7 := hbw4.trans (hb7.mono (by omega))
    go_wp2_with (first | ((with_reducible refine gs ?_); refine wsr (w.heap.size + 1) (c1110 (.slice a1 xs.length cap1) (.slice sa1 ls.length scap1) d.p 9 0 0 d.start d.at_ d.field d.wire 0 d.utf 10 0 0 0 ⟨#[]⟩ 2 d.start).toArray HR7.out ?_))
    rw [HO2.out, failO]
    refine finDE (w := w) (R := w.heap.size + 1) (base := w.heap.size + 1 + 1) (e := failD (scan0 d) 2 d.start) (ms := ls) (es := [failE 2 d.start]) (rs := rs1) (a := a1) (cap := cap1) (sa := sa1) (scap := scap1) (ea := ea) (ecap := ecap) Tryz.results24 ?_ ?_ ?_ ?_ ?_ ?_ ?_ (by omega)
    ·rfl
    ·rfl
    ·exact hset_row (cs := dz0.toArray) HR7.out
    ·exact OwnShs.setRow Q1b.out (by omega) _
    ·exact owns_setRow Q2b.out (by omega) _
    ·exact owns_setRow Q3.out (by omega) _
    ·exact bl
   ·obtain ⟨m, hml⟩ : ∃ m, ls.length = m + 1 := ⟨ls.length - 1, by have : ls.length ≠ 0 := fun e => hls (List.eq_nil_of_length_eq_zero e); omega⟩
    obtain ⟨l, he⟩ : ∃ l, ls[m]? = some l := ⟨_, List.getElem?_eq_getElem (by omega)⟩
    have hlast : ls.getLast? = some l := by rw [List.getLast?_eq_getElem?, hml]; exact he
    have htl : topL ls = l.left := by simp only [topL, hlast]
    have hnb : ¬ (u < 8 ∨ 536870911 < u / 8 ∨ ls = []) := by simp only [tagOk, decide_eq_true_eq] at htk; simp only [hls, or_false]; exact htk
    have hq : tagQ u = u / 8 := by simp [tagQ, htk]
    have hv : tagV u = u % 8 := by simp [tagV, htk]
    rw [hq, hv]
    obtain ⟨b, off, rfl, hlb, c0, c1⟩ := Lvls.at (Sl.keep HSl.out hbw4) he
    have hbl : b < w.heap.size := by obtain ⟨b', off', e1, hl1, _⟩ := Lvls.at HSl.out he; simp only [Option.some.injEq, Addr.mk.injEq] at e1; omega
    have hl0 : (((m + 1 : Nat) : Int) == 0) = false := by simp; omega
    rw [hml] at kA
    have hok2 := hok
    have hmw : IntKind.i64.wrap (m : Int) = m := IntWalk.i64_in _ (by omega)
    have hm0 : (0 : Int) ≤ (m : Int) := by omega
    have hmlt : (m : Int) < (m : Int) + 1 := by omega
    have HML := Lib.hid hml; clear hml
    have HSs4 := Lib.hid (HSs.out.shs.keep hbw4)
    obtain ⟨⟨f, kn⟩, hf⟩ : ∃ p, p = fieldAt xs l.msg (u / 8) := ⟨_, rfl⟩
    have HF := Lib.hid hf; clear hf
    have cA0 := kA 0; have cA5 := kA 5
    simp only [List.getElem?_toArray, List.getElem?_cons_zero, List.getElem?_cons_succ] at cA0 cA5
    go_wp2_with fail
    refine wp_region_till (Cells [(⟨w.heap.size, 0, none⟩, .slice a xs.length cap), (⟨w.heap.size, 5, none⟩, .slice (some ⟨b, off, none⟩) (m + 1) scap), (⟨b, off + m * 2, none⟩, .int .i64 l.msg)]) (fun i => decide (17 ≤ i)) (by kernel_rfl) ?_
    have hS : Cells [(⟨w.heap.size, 0, none⟩, .slice a xs.length cap), (⟨w.heap.size, 5, none⟩, .slice (some ⟨b, off, none⟩) (m + 1) scap), (⟨b, off + m * 2, none⟩, .int .i64 l.msg)] w4.drew := cells_mk cA0 (cells_mk cA5 (cells_mk c0 (cells_no _)))
    clear cA0 cA5
    refine tk (i := 0) hS ?_
    refine tk (i := 1) hS ?_
    refine tk (i := 2) hS ?_
    refine tk (i := 3) hS ?_
    refine tk (i := 4) hS ?_
    refine tk (i := 5) hS ?_
    refine tk (i := 6) hS ?_
    refine tk (i := 7) hS ?_
    refine tk (i := 8) hS ?_
    refine tk (i := 9) hS ?_
    refine tk (i := 10) hS ?_
    clear kA fA hBA kO fO hBO
    refine wpTill_two (i := 11) (j := 15) (by kernel_rfl) rfl rfl (fun K hK => ?_) (fun K hK => ?_)
    ·skip
     go_simp
     refine (specFieldAt_any a cap _ xs l.msg (u / 8) _ (HSs4.out.keep (show Below w4.heap.size w4 _ from by exact bl)) rfl hn hm).mono ?_
     rintro r w5 ⟨rfl, hb5⟩
     rw [← HF.out]
     have hb45 : Below w4.heap.size w4 w5 := by exact bl
     have hz45 := hb45.size
     refine hK.out _ _ (fun _ => hS.below hb5) ?_
     have hS5 := hS.below hb5; clear hS; have hS := hS5; clear hS5
     clear hK K
     try simp only [Act.put, List.setIfInBounds_toArray, List.set_cons_zero, List.set_cons_succ]
     refine tk (i := 12) hS ?_
     refine tk (i := 13) hS ?_
     refine tk (i := 14) hS ?_
     refine wpTill_op (i := 15) (by kernel_rfl) rfl (fun K hK => ?_)
     go_simp
     refine hK.out _ _ (fun _ => hS.alloc _) ?_
     have hS5 := hS.alloc (.cells #[.int .i64 0, .int .i64 0, .bool false, .bool false, .int .i64 0] 34); clear hS; have hS := hS5; clear hS5
     clear hK K
     try simp only [Act.put, List.setIfInBounds_toArray, List.set_cons_zero, List.set_cons_succ]
     refine wpTill_op (i := 16) (by kernel_rfl) rfl (fun K hK => ?_)
     refine step_store_row rfl 34 (.tmp 11) (.tmp 57) rfl w5.heap.size #[.int .i64 f.number, .int .i64 f.kind, .bool f.rep, .bool f.packed, .int .i64 f.msg] rfl rfl 34 #[.int .i64 0, .int .i64 0, .bool false, .bool false, .int .i64 0] (hset_new rfl) (by kernel_rfl) rfl (by simp [Value.oneCell']) ?_
     have hS16 := hS.grown (only_rowT _ (w5.heap.size) #[.int .i64 f.number, .int .i64 f.kind, .bool f.rep, .bool f.packed, .int .i64 f.msg]) (by intro q hq; simp only [List.mem_cons, List.not_mem_nil, or_false] at hq; rcases hq with rfl | rfl | rfl <;> simp only [ne_eq, Option.some.injEq] <;> omega)
     refine hK.out _ _ (fun _ => hS16) ?_
     clear hK K hS
     try simp only [Act.put, List.setIfInBounds_toArray, List.set_cons_zero, List.set_cons_succ]
     refine wpTill_op (i := 17) (by kernel_rfl) rfl (fun K hK => ?_)
     go_simp
     refine hK.out _ _ (fun e => by cases e) ?_
     clear hK K
     try simp only [Act.put, List.setIfInBounds_toArray, List.set_cons_zero, List.set_cons_succ]
     refine wpTill_done (by kernel_rfl) ?_ _
     obtain ⟨w6, hw6⟩ : ∃ w6, w6 = (w5.alloc (.cells #[.int .i64 0, .int .i64 0, .bool false, .bool false, .int .i64 0] 34)).setRow w5.heap.size #[.int .i64 f.number, .int .i64 f.kind, .bool f.rep, .bool f.packed, .int .i64 f.msg] := ⟨_, rfl⟩
     obtain ⟨F, hF⟩ : ∃ F, F = w5.heap.size := ⟨_, rfl⟩
     have hF6 : w6.heap[F]? = some (.cells #[.int .i64 f.number, .int .i64 f.kind, .bool f.rep, .bool f.packed, .int .i64 f.msg] 34 (0, 0)) := by rw [hw6, hF]; exact hset_row (cs := #[.int .i64 0, .int .i64 0, .bool false, .bool false, .int .i64 0]) (hset_new rfl)
     have hb46 : Below w4.heap.size w4 w6 := by rw [hw6]; exact bl
     rw [← hw6, ← hF]
     have hF4 : w4.heap.size ≤ F := by rw [hF]; omega
     clear hw6 hF hb45
     have hz6 := hb46.size
     have HO6 := Lib.hid ((hb46.block _ (box_lt HO4.out)).trans HO4.out); clear HO4
     have HA6 := Lib.hid ((hb46.block _ (box_lt HA4.out)).trans HA4.out); clear HA4
     have HR6 := Lib.hid ((hb46.block _ (box_lt HR4.out)).trans HR4.out); clear HR4
     have Q1b := Lib.hid (Q1.out.chain hb46 (Nat.le_refl _)); clear Q1; have Q1 := Q1b; clear Q1b
     have Q2b := Lib.hid (owns_below Q2.out hb46 (Nat.le_refl _)); clear Q2; have Q2 := Q2b; clear Q2b
     have hbw6 : Below w.heap.size w w6 := hbw4.trans (hb46.mono (by omega))
     have c1_ := (hb46.cell (p := ⟨b, off + m * 2 + 1, none⟩) hlb).trans c1; clear c1 c0; have c1 := c1_; clear c1_
     have kF := box_cells hF6; have fF := box_frozen hF6; have hBF := box_lt hF6
     have HF6 := Lib.hid hF6; clear hF6
     have hlb6 : b < w6.heap.size := by omega
     clear hlb hb46
     have kO := box_cells HO6.out; have fO := box_frozen HO6.out; have hBO := box_lt HO6.out
     have kA := box_cells HA6.out; have fA := box_frozen HA6.out; have hBA := box_lt HA6.out
     rw [HML.out] at kA
     go_wp2_with fail
     refine (specWireOk_any (u % 8) _).mono ?_
     rintro r _ ⟨rfl, rfl⟩
     cases hwk : wireOk (u % 8)
     ·skip
      have HO2 := Lib.hid (tagO_wire (xs := xs) hok hnb hwk)
      go_wp2_with (first | ((with_reducible refine gl ?_); refine wlm w1.heap.size (c1111 (.slice a1 xs.length cap1) (.slice sa1 ls.length scap1) d.p d.mode 0 0 d.start d.at_ d.field d.wire d.want d.utf d.end_) (range_of_box (t := 40) HO6.out) ?_))
      refine (l15Fail_any (scan0 d) a1 cap1 xs.length sa1 scap1 ls.length 3 d.start _).mono ?_
      rintro r w7 ⟨ea, ecap, rfl, ho7, hb7⟩
      have hz7 := hb7.size
      have Q1b := Lib.hid (Q1.out.chain hb7 (Nat.le_refl _)); clear Q1
      have Q2b := Lib.hid (owns_below Q2.out hb7 (Nat.le_refl _)); clear Q2
      have Q3 := Lib.hid (owns_le ho7 (show w.heap.size + 1 + 1 ≤ _ by omega)); clear ho7
      have HR7 := Lib.hid ((hb7.block _ (by omega)).trans HR6.out); clear HR6
      have hbw7 : Below w.heap.size w w7 := hbw6.trans (hb7.mono (by omega))
      go_wp2_with (first | ((with_reducible refine gs ?_); refine wsr (w.heap.size + 1) (c1110 (.slice a1 xs.length cap1) (.slice sa1 ls.length scap1) d.p 9 0 0 d.start d.at_ d.field d.wire 0 d.utf 10 0 0 0 ⟨#[]⟩ 3 d.start).toArray HR7.out ?_))
      rw [HO2.out, failO]
      refine finDE (w := w) (R := w.heap.size + 1) (base := w.heap.size + 1 + 1) (e := failD (scan0 d) 3 d.start) (ms := ls) (es := [failE 3 d.start]) (rs := rs1) (a := a1) (cap := cap1) (sa := sa1) (scap := scap1) (ea := ea) (ecap := ecap) Tryz.results24 ?_ ?_ ?_ ?_ ?_ ?_ ?_ (by omega)
      ·rfl
      ·rfl
      ·exact hset_row (cs := dz0.toArray) HR7.out
      ·exact OwnShs.setRow Q1b.out (by omega) _
      ·exact owns_setRow Q2b.out (by omega) _
      ·exact owns_setRow Q3.out (by omega) _
      ·exact bl
     ·cases hkn : kn
      ·skip
       have hnk : ¬ (kn = true ∧ allowed f (u % 8) = false) := by rw [hkn]; simp
       by_cases hv0 : u % 8 = 0
       ·have g0 : (u % 8 == 0) = true := by simp; omega
        have hwd : widthOf (u % 8) = 0 := by rw [hv0]; rfl
        have hK : (3 : Int) = if u % 8 = 0 then 3 else if u % 8 = 2 then 4 else 5 := by rw [hv0]; rfl
        have HKk := Lib.hid hK; have HWD := Lib.hid hwd; clear hK hwd
        clear hv0
        by_cases ht : l.left < 1
        ·skip
         have HO2 := Lib.hid (tagO_end (k := 3) hok hnb hwk hlast HF.out hnk HKk.out (by rw [htl, HWD.out]; omega))
         go_wp2_with (first | ((with_reducible refine gl ?_); generalize hw8 : World.setCell _ (⟨w1.heap.size, 4, none⟩ : Addr) (.int .i64 3) = w8; have hO8 : w8.heap[w1.heap.size]? = some (.cells (c1111 (.slice a1 xs.length cap1) (.slice sa1 ls.length scap1) d.p 3 0 0 d.start d.at_ f (u % 8) d.want d.utf d.end_).toArray 40 (0, 0)) := (by rw [← hw8]; apply hset_eq; (repeat (first | (with_reducible exact HO6.out) | (with_reducible apply hset_set))); simp only [List.setIfInBounds_toArray, List.set_cons_zero, List.set_cons_succ]); have hG8 : w6.grownBy w8 (some w1.heap.size) := (by rw [← hw8]; (repeat (with_reducible refine only_cell ?_ _ _)); with_reducible exact only_refl _ _); clear hw8 kO fO hBO; have hz8 := hG8.size; have HA8 := Lib.hid ((hG8.block _ hBA (by simp; omega)).trans HA6.out); clear kA fA hBA; have kA := box_cells HA8.out; have fA := box_frozen HA8.out; have hBA := box_lt HA8.out; rw [HML.out] at kA; have Q1b := Lib.hid (Q1.out.keepBy hG8 (other_box HO6.out (by decide)) (other_box HO6.out (by decide))); clear Q1; have Q1 := Q1b; clear Q1b; have Q2b := Lib.hid (owns_keep Q2.out hG8 (other_box HO6.out (by decide))); clear Q2; have Q2 := Q2b; clear Q2b; have HR8 := Lib.hid ((hG8.block _ (by omega) (by simp; omega)).trans HR6.out); clear HR6; have hbw8 : Below w.heap.size w w8 := below_grown hbw6 hG8 (fun g e => by have := Option.some.inj e; omega) (by omega); have HO8 := Lib.hid hO8; clear hO8 hG8; refine wlm w1.heap.size (c1111 (.slice a1 xs.length cap1) (.slice sa1 ls.length scap1) d.p 3 0 0 d.start d.at_ f (u % 8) d.want d.utf d.end_) (range_of_box (t := 40) HO8.out) ?_))
         refine (l15Fail_any (tagK d f (u % 8) 3) a1 cap1 xs.length sa1 scap1 ls.length 9 d.at_ _).mono ?_
         rintro r w7 ⟨ea, ecap, rfl, ho7, hb7⟩
         have hz7 := hb7.size
         have Q1b := Lib.hid (Q1.out.chain hb7 (Nat.le_refl _)); clear Q1
         have Q2b := Lib.hid (owns_below Q2.out hb7 (Nat.le_refl _)); clear Q2
         have Q3 := Lib.hid (owns_le ho7 (show w.heap.size + 1 + 1 ≤ _ by omega)); clear ho7
         have HR7 := Lib.hid ((hb7.block _ (by omega)).trans HR8.out); clear HR8
         have hbw7 : Below w.heap.size w w7 := hbw8.trans (hb7.mono (by omega))
         go_wp2_with (first | ((with_reducible refine gs ?_); refine wsr (w.heap.size + 1) (c1110 (.slice a1 xs.length cap1) (.slice sa1 ls.length scap1) d.p 9 0 0 d.start d.at_ f (u % 8) 0 d.utf 10 0 0 0 ⟨#[]⟩ 9 d.at_).toArray HR7.out ?_))
         rw [HO2.out, failO]
         refine finDE (w := w) (R := w.heap.size + 1) (base := w.heap.size + 1 + 1) (e := failD (tagK d f (u % 8) 3) 9 d.at_) (ms := ls) (es := [failE 9 d.at_]) (rs := rs1) (a := a1) (cap := cap1) (sa := sa1) (scap := scap1) (ea := ea) (ecap := ecap) Tryz.results24 ?_ ?_ ?_ ?_ ?_ ?_ ?_ (by omega)
         ·rfl
         ·rfl
         ·exact hset_row (cs := dz0.toArray) HR7.out
         ·exact OwnShs.setRow Q1b.out (by omega) _
         ·exact owns_setRow Q2b.out (by omega) _
         ·exact owns_setRow Q3.out (by omega) _
         ·exact bl
        ·skip
         have HO2 := Lib.hid (tagO_ok (k := 3) hok hnb hwk hlast HF.out hnk HKk.out (by rw [htl, HWD.out]; omega))
         go_wp2_with (first | ((with_reducible refine gl ?_); generalize hw8 : World.setCell _ (⟨w1.heap.size, 4, none⟩ : Addr) (.int .i64 3) = w8; have hO8 : w8.heap[w1.heap.size]? = some (.cells (c1111 (.slice a1 xs.length cap1) (.slice sa1 ls.length scap1) d.p 3 0 0 d.start d.at_ f (u % 8) d.want d.utf d.end_).toArray 40 (0, 0)) := (by rw [← hw8]; apply hset_eq; (repeat (first | (with_reducible exact HO6.out) | (with_reducible apply hset_set))); simp only [List.setIfInBounds_toArray, List.set_cons_zero, List.set_cons_succ]); have hG8 : w6.grownBy w8 (some w1.heap.size) := (by rw [← hw8]; (repeat (with_reducible refine only_cell ?_ _ _)); with_reducible exact only_refl _ _); clear hw8 kO fO hBO; have hz8 := hG8.size; have HA8 := Lib.hid ((hG8.block _ hBA (by simp; omega)).trans HA6.out); clear kA fA hBA; have kA := box_cells HA8.out; have fA := box_frozen HA8.out; have hBA := box_lt HA8.out; rw [HML.out] at kA; have Q1b := Lib.hid (Q1.out.keepBy hG8 (other_box HO6.out (by decide)) (other_box HO6.out (by decide))); clear Q1; have Q1 := Q1b; clear Q1b; have Q2b := Lib.hid (owns_keep Q2.out hG8 (other_box HO6.out (by decide))); clear Q2; have Q2 := Q2b; clear Q2b; have HR8 := Lib.hid ((hG8.block _ (by omega) (by simp; omega)).trans HR6.out); clear HR6; have hbw8 : Below w.heap.size w w8 := below_grown hbw6 hG8 (fun g e => by have := Option.some.inj e; omega) (by omega); have HO8 := Lib.hid hO8; clear hO8 hG8; refine wlm w1.heap.size (c1111 (.slice a1 xs.length cap1) (.slice sa1 ls.length scap1) d.p 3 0 0 d.start d.at_ f (u % 8) d.want d.utf d.end_) (range_of_box (t := 40) HO8.out) ?_) | ((with_reducible refine gs ?_); refine wsr (w.heap.size + 1) (c1111 (.slice a1 xs.length cap1) (.slice sa1 ls.length scap1) d.p 3 0 0 d.start d.at_ f (u % 8) d.want d.utf d.end_).toArray (hset_alloc HR8.out) ?_))
         rw [HO2.out]
         refine finDE (w := w) (R := w.heap.size + 1) (base := w.heap.size + 1 + 1) (e := tagK d f (u % 8) 3) (ms := ls) (es := ([] : List Ev)) (rs := rs1) (a := a1) (cap := cap1) (sa := sa1) (scap := scap1) (ea := some ⟨w8.heap.size, 0, none⟩) (ecap := 0) Tryz.results24 ?_ ?_ ?_ ?_ ?_ ?_ ?_ (by omega)
         ·rfl
         ·rfl
         ·exact hset_row (cs := dz0.toArray) (hset_alloc HR8.out)
         ·exact OwnShs.setRow (Q1.out.alloc _) (by omega) _
         ·exact owns_setRow (Q2.out.alloc _) (by omega) _
         ·exact owns_setRow (owns_le (own_built w8 38 7) (by omega)) (by omega) _
         ·exact bl
       ·by_cases hv2 : u % 8 = 2
        ·have g0 : (u % 8 == 0) = false := by simp; omega
         have g2 : (u % 8 == 2) = true := by simp; omega
         have hwd : widthOf (u % 8) = 0 := by rw [hv2]; rfl
         have hK : (4 : Int) = if u % 8 = 0 then 3 else if u % 8 = 2 then 4 else 5 := by rw [hv2]; rfl
         have HKk := Lib.hid hK; have HWD := Lib.hid hwd; clear hK hwd
         clear hv2
         by_cases ht : l.left < 1
         ·skip
          have HO2 := Lib.hid (tagO_end (k := 4) hok hnb hwk hlast HF.out hnk HKk.out (by rw [htl, HWD.out]; omega))
          go_wp2_with (first | ((with_reducible refine gl ?_); generalize hw8 : World.setCell _ (⟨w1.heap.size, 4, none⟩ : Addr) (.int .i64 4) = w8; have hO8 : w8.heap[w1.heap.size]? = some (.cells (c1111 (.slice a1 xs.length cap1) (.slice sa1 ls.length scap1) d.p 4 0 0 d.start d.at_ f (u % 8) d.want d.utf d.end_).toArray 40 (0, 0)) := (by rw [← hw8]; apply hset_eq; (repeat (first | (with_reducible exact HO6.out) | (with_reducible apply hset_set))); simp only [List.setIfInBounds_toArray, List.set_cons_zero, List.set_cons_succ]); have hG8 : w6.grownBy w8 (some w1.heap.size) := (by rw [← hw8]; (repeat (with_reducible refine only_cell ?_ _ _)); with_reducible exact only_refl _ _); clear hw8 kO fO hBO; have hz8 := hG8.size; have HA8 := Lib.hid ((hG8.block _ hBA (by simp; omega)).trans HA6.out); clear kA fA hBA; have kA := box_cells HA8.out; have fA := box_frozen HA8.out; have hBA := box_lt HA8.out; rw [HML.out] at kA; have Q1b := Lib.hid (Q1.out.keepBy hG8 (other_box HO6.out (by decide)) (other_box HO6.out (by decide))); clear Q1; have Q1 := Q1b; clear Q1b; have Q2b := Lib.hid (owns_keep Q2.out hG8 (other_box HO6.out (by decide))); clear Q2; have Q2 := Q2b; clear Q2b; have HR8 := Lib.hid ((hG8.block _ (by omega) (by simp; omega)).trans HR6.out); clear HR6; have hbw8 : Below w.heap.size w w8 := below_grown hbw6 hG8 (fun g e => by have := Option.some.inj e; omega) (by omega); have HO8 := Lib.hid hO8; clear hO8 hG8; refine wlm w1.heap.size (c1111 (.slice a1 xs.length cap1) (.slice sa1 ls.length scap1) d.p 4 0 0 d.start d.at_ f (u % 8) d.want d.utf d.end_) (range_of_box (t := 40) HO8.out) ?_))
          refine (l15Fail_any (tagK d f (u % 8) 4) a1 cap1 xs.length sa1 scap1 ls.length 9 d.at_ _).mono ?_
          rintro r w7 ⟨ea, ecap, rfl, ho7, hb7⟩
          have hz7 := hb7.size
          have Q1b := Lib.hid (Q1.out.chain hb7 (Nat.le_refl _)); clear Q1
          have Q2b := Lib.hid (owns_below Q2.out hb7 (Nat.le_refl _)); clear Q2
          have Q3 := Lib.hid (owns_le ho7 (show w.heap.size + 1 + 1 ≤ _ by omega)); clear ho7
          have HR7 := Lib.hid ((hb7.block _ (by omega)).trans HR8.out); clear HR8
          have hbw7 : Below w.heap.size w w7 := hbw8.trans (hb7.mono (by omega))
          go_wp2_with (first | ((with_reducible refine gs ?_); refine wsr (w.heap.size + 1) (c1110 (.slice a1 xs.length cap1) (.slice sa1 ls.length scap1) d.p 9 0 0 d.start d.at_ f (u % 8) 0 d.utf 10 0 0 0 ⟨#[]⟩ 9 d.at_).toArray HR7.out ?_))
          rw [HO2.out, failO]
          refine finDE (w := w) (R := w.heap.size + 1) (base := w.heap.size + 1 + 1) (e := failD (tagK d f (u % 8) 4) 9 d.at_) (ms := ls) (es := [failE 9 d.at_]) (rs := rs1) (a := a1) (cap := cap1) (sa := sa1) (scap := scap1) (ea := ea) (ecap := ecap) Tryz.results24 ?_ ?_ ?_ ?_ ?_ ?_ ?_ (by omega)
          ·rfl
          ·rfl
          ·exact hset_row (cs := dz0.toArray) HR7.out
          ·exact OwnShs.setRow Q1b.out (by omega) _
          ·exact owns_setRow Q2b.out (by omega) _
          ·exact owns_setRow Q3.out (by omega) _
          ·exact bl
         ·skip
          have HO2 := Lib.hid (tagO_ok (k := 4) hok hnb hwk hlast HF.out hnk HKk.out (by rw [htl, HWD.out]; omega))
          go_wp2_with (first | ((with_reducible refine gl ?_); generalize hw8 : World.setCell _ (⟨w1.heap.size, 4, none⟩ : Addr) (.int .i64 4) = w8; have hO8 : w8.heap[w1.heap.size]? = some (.cells (c1111 (.slice a1 xs.length cap1) (.slice sa1 ls.length scap1) d.p 4 0 0 d.start d.at_ f (u % 8) d.want d.utf d.end_).toArray 40 (0, 0)) := (by rw [← hw8]; apply hset_eq; (repeat (first | (with_reducible exact HO6.out) | (with_reducible apply hset_set))); simp only [List.setIfInBounds_toArray, List.set_cons_zero, List.set_cons_succ]); have hG8 : w6.grownBy w8 (some w1.heap.size) := (by rw [← hw8]; (repeat (with_reducible refine only_cell ?_ _ _)); with_reducible exact only_refl _ _); clear hw8 kO fO hBO; have hz8 := hG8.size; have HA8 := Lib.hid ((hG8.block _ hBA (by simp; omega)).trans HA6.out); clear kA fA hBA; have kA := box_cells HA8.out; have fA := box_frozen HA8.out; have hBA := box_lt HA8.out; rw [HML.out] at kA; have Q1b := Lib.hid (Q1.out.keepBy hG8 (other_box HO6.out (by decide)) (other_box HO6.out (by decide))); clear Q1; have Q1 := Q1b; clear Q1b; have Q2b := Lib.hid (owns_keep Q2.out hG8 (other_box HO6.out (by decide))); clear Q2; have Q2 := Q2b; clear Q2b; have HR8 := Lib.hid ((hG8.block _ (by omega) (by simp; omega)).trans HR6.out); clear HR6; have hbw8 : Below w.heap.size w w8 := below_grown hbw6 hG8 (fun g e => by have := Option.some.inj e; omega) (by omega); have HO8 := Lib.hid hO8; clear hO8 hG8; refine wlm w1.heap.size (c1111 (.slice a1 xs.length cap1) (.slice sa1 ls.length scap1) d.p 4 0 0 d.start d.at_ f (u % 8) d.want d.utf d.end_) (range_of_box (t := 40) HO8.out) ?_) | ((with_reducible refine gs ?_); refine wsr (w.heap.size + 1) (c1111 (.slice a1 xs.length cap1) (.slice sa1 ls.length scap1) d.p 4 0 0 d.start d.at_ f (u % 8) d.want d.utf d.end_).toArray (hset_alloc HR8.out) ?_))
          rw [HO2.out]
          refine finDE (w := w) (R := w.heap.size + 1) (base := w.heap.size + 1 + 1) (e := tagK d f (u % 8) 4) (ms := ls) (es := ([] : List Ev)) (rs := rs1) (a := a1) (cap := cap1) (sa := sa1) (scap := scap1) (ea := some ⟨w8.heap.size, 0, none⟩) (ecap := 0) Tryz.results24 ?_ ?_ ?_ ?_ ?_ ?_ ?_ (by omega)
          ·rfl
          ·rfl
          ·exact hset_row (cs := dz0.toArray) (hset_alloc HR8.out)
          ·exact OwnShs.setRow (Q1.out.alloc _) (by omega) _
          ·exact owns_setRow (Q2.out.alloc _) (by omega) _
          ·exact owns_setRow (owns_le (own_built w8 38 7) (by omega)) (by omega) _
          ·exact bl
        ·have g0 : (u % 8 == 0) = false := by simp; omega
         have g2 : (u % 8 == 2) = false := by simp; omega
         by_cases hv1 : u % 8 = 1
         ·skip
          have hwd : widthOf (u % 8) = 8 := by rw [hv1]; rfl
          have hK : (5 : Int) = if u % 8 = 0 then 3 else if u % 8 = 2 then 4 else 5 := by rw [hv1]; rfl
          have HKk := Lib.hid hK; have HWD := Lib.hid hwd; clear hK hwd
          clear hv1
          by_cases ht : l.left < 8
          ·skip
           go_wp2_with fail
           refine (specWidthOf_any (u % 8) _).mono ?_
           rintro r _ ⟨rfl, rfl⟩
           rw [HWD.out]
           have HO2 := Lib.hid (tagO_end (k := 5) hok hnb hwk hlast HF.out hnk HKk.out (by rw [htl, HWD.out]; omega))
           go_wp2_with (first | ((with_reducible refine gl ?_); generalize hw8 : World.setCell _ (⟨w1.heap.size, 4, none⟩ : Addr) (.int .i64 5) = w8; have hO8 : w8.heap[w1.heap.size]? = some (.cells (c1111 (.slice a1 xs.length cap1) (.slice sa1 ls.length scap1) d.p 5 0 0 d.start d.at_ f (u % 8) d.want d.utf d.end_).toArray 40 (0, 0)) := (by rw [← hw8]; apply hset_eq; (repeat (first | (with_reducible exact HO6.out) | (with_reducible apply hset_set))); simp only [List.setIfInBounds_toArray, List.set_cons_zero, List.set_cons_succ]); have hG8 : w6.grownBy w8 (some w1.heap.size) := (by rw [← hw8]; (repeat (with_reducible refine only_cell ?_ _ _)); with_reducible exact only_refl _ _); clear hw8 kO fO hBO; have hz8 := hG8.size; have HA8 := Lib.hid ((hG8.block _ hBA (by simp; omega)).trans HA6.out); clear kA fA hBA; have kA := box_cells HA8.out; have fA := box_frozen HA8.out; have hBA := box_lt HA8.out; rw [HML.out] at kA; have Q1b := Lib.hid (Q1.out.keepBy hG8 (other_box HO6.out (by decide)) (other_box HO6.out (by decide))); clear Q1; have Q1 := Q1b; clear Q1b; have Q2b := Lib.hid (owns_keep Q2.out hG8 (other_box HO6.out (by decide))); clear Q2; have Q2 := Q2b; clear Q2b; have HR8 := Lib.hid ((hG8.block _ (by omega) (by simp; omega)).trans HR6.out); clear HR6; have hbw8 : Below w.heap.size w w8 := below_grown hbw6 hG8 (fun g e => by have := Option.some.inj e; omega) (by omega); have HO8 := Lib.hid hO8; clear hO8 hG8; refine wlm w1.heap.size (c1111 (.slice a1 xs.length cap1) (.slice sa1 ls.length scap1) d.p 5 0 0 d.start d.at_ f (u % 8) d.want d.utf d.end_) (range_of_box (t := 40) HO8.out) ?_))
           refine (l15Fail_any (tagK d f (u % 8) 5) a1 cap1 xs.length sa1 scap1 ls.length 9 d.at_ _).mono ?_
           rintro r w7 ⟨ea, ecap, rfl, ho7, hb7⟩
           have hz7 := hb7.size
           have Q1b := Lib.hid (Q1.out.chain hb7 (Nat.le_refl _)); clear Q1
           have Q2b := Lib.hid (owns_below Q2.out hb7 (Nat.le_refl _)); clear Q2
           have Q3 := Lib.hid (owns_le ho7 (show w.heap.size + 1 + 1 ≤ _ by omega)); clear ho7
           have HR7 := Lib.hid ((hb7.block _ (by omega)).trans HR8.out); clear HR8
           have hbw7 : Below w.heap.size w w7 := hbw8.trans (hb7.mono (by omega))
           go_wp2_with (first | ((with_reducible refine gs ?_); refine wsr (w.heap.size + 1) (c1110 (.slice a1 xs.length cap1) (.slice sa1 ls.length scap1) d.p 9 0 0 d.start d.at_ f (u % 8) 0 d.utf 10 0 0 0 ⟨#[]⟩ 9 d.at_).toArray HR7.out ?_))
           rw [HO2.out, failO]
           refine finDE (w := w) (R := w.heap.size + 1) (base := w.heap.size + 1 + 1) (e := failD (tagK d f (u % 8) 5) 9 d.at_) (ms := ls) (es := [failE 9 d.at_]) (rs := rs1) (a := a1) (cap := cap1) (sa := sa1) (scap := scap1) (ea := ea) (ecap := ecap) Tryz.results24 ?_ ?_ ?_ ?_ ?_ ?_ ?_ (by omega)
           ·rfl
           ·rfl
           ·exact hset_row (cs := dz0.toArray) HR7.out
           ·exact OwnShs.setRow Q1b.out (by omega) _
           ·exact owns_setRow Q2b.out (by omega) _
           ·exact owns_setRow Q3.out (by omega) _
           ·exact bl
          ·skip
           go_wp2_with fail
           refine (specWidthOf_any (u % 8) _).mono ?_
           rintro r _ ⟨rfl, rfl⟩
           rw [HWD.out]
           have HO2 := Lib.hid (tagO_ok (k := 5) hok hnb hwk hlast HF.out hnk HKk.out (by rw [htl, HWD.out]; omega))
           go_wp2_with (first | ((with_reducible refine gl ?_); generalize hw8 : World.setCell _ (⟨w1.heap.size, 4, none⟩ : Addr) (.int .i64 5) = w8; have hO8 : w8.heap[w1.heap.size]? = some (.cells (c1111 (.slice a1 xs.length cap1) (.slice sa1 ls.length scap1) d.p 5 0 0 d.start d.at_ f (u % 8) d.want d.utf d.end_).toArray 40 (0, 0)) := (by rw [← hw8]; apply hset_eq; (repeat (first | (with_reducible exact HO6.out) | (with_reducible apply hset_set))); simp only [List.setIfInBounds_toArray, List.set_cons_zero, List.set_cons_succ]); have hG8 : w6.grownBy w8 (some w1.heap.size) := (by rw [← hw8]; (repeat (with_reducible refine only_cell ?_ _ _)); with_reducible exact only_refl _ _); clear hw8 kO fO hBO; have hz8 := hG8.size; have HA8 := Lib.hid ((hG8.block _ hBA (by simp; omega)).trans HA6.out); clear kA fA hBA; have kA := box_cells HA8.out; have fA := box_frozen HA8.out; have hBA := box_lt HA8.out; rw [HML.out] at kA; have Q1b := Lib.hid (Q1.out.keepBy hG8 (other_box HO6.out (by decide)) (other_box HO6.out (by decide))); clear Q1; have Q1 := Q1b; clear Q1b; have Q2b := Lib.hid (owns_keep Q2.out hG8 (other_box HO6.out (by decide))); clear Q2; have Q2 := Q2b; clear Q2b; have HR8 := Lib.hid ((hG8.block _ (by omega) (by simp; omega)).trans HR6.out); clear HR6; have hbw8 : Below w.heap.size w w8 := below_grown hbw6 hG8 (fun g e => by have := Option.some.inj e; omega) (by omega); have HO8 := Lib.hid hO8; clear hO8 hG8; refine wlm w1.heap.size (c1111 (.slice a1 xs.length cap1) (.slice sa1 ls.length scap1) d.p 5 0 0 d.start d.at_ f (u % 8) d.want d.utf d.end_) (range_of_box (t := 40) HO8.out) ?_) | ((with_reducible refine gs ?_); refine wsr (w.heap.size + 1) (c1111 (.slice a1 xs.length cap1) (.slice sa1 ls.length scap1) d.p 5 0 0 d.start d.at_ f (u % 8) d.want d.utf d.end_).toArray (hset_alloc HR8.out) ?_))
           rw [HO2.out]
           refine finDE (w := w) (R := w.heap.size + 1) (base := w.heap.size + 1 + 1) (e := tagK d f (u % 8) 5) (ms := ls) (es := ([] : List Ev)) (rs := rs1) (a := a1) (cap := cap1) (sa := sa1) (scap := scap1) (ea := some ⟨w8.heap.size, 0, none⟩) (ecap := 0) Tryz.results24 ?_ ?_ ?_ ?_ ?_ ?_ ?_ (by omega)
           ·rfl
           ·rfl
           ·exact hset_row (cs := dz0.toArray) (hset_alloc HR8.out)
           ·exact OwnShs.setRow (Q1.out.alloc _) (by omega) _
           ·exact owns_setRow (Q2.out.alloc _) (by omega) _
           ·exact owns_setRow (owns_le (own_built w8 38 7) (by omega)) (by omega) _
           ·exact bl
         ·have hv5 : u % 8 = 5 := by simp only [wireOk, Bool.or_eq_true, beq_iff_eq] at hwk; omega
          have hwd : widthOf (u % 8) = 4 := by rw [hv5]; rfl
          have hK : (5 : Int) = if u % 8 = 0 then 3 else if u % 8 = 2 then 4 else 5 := by rw [hv5]; rfl
          have HKk := Lib.hid hK; have HWD := Lib.hid hwd; clear hK hwd
          clear hv5
          by_cases ht : l.left < 4
          ·skip
           go_wp2_with fail
           refine (specWidthOf_any (u % 8) _).mono ?_
           rintro r _ ⟨rfl, rfl⟩
           rw [HWD.out]
           have HO2 := Lib.hid (tagO_end (k := 5) hok hnb hwk hlast HF.out hnk HKk.out (by rw [htl, HWD.out]; omega))
           go_wp2_with (first | ((with_reducible refine gl ?_); generalize hw8 : World.setCell _ (⟨w1.heap.size, 4, none⟩ : Addr) (.int .i64 5) = w8; have hO8 : w8.heap[w1.heap.size]? = some (.cells (c1111 (.slice a1 xs.length cap1) (.slice sa1 ls.length scap1) d.p 5 0 0 d.start d.at_ f (u % 8) d.want d.utf d.end_).toArray 40 (0, 0)) := (by rw [← hw8]; apply hset_eq; (repeat (first | (with_reducible exact HO6.out) | (with_reducible apply hset_set))); simp only [List.setIfInBounds_toArray, List.set_cons_zero, List.set_cons_succ]); have hG8 : w6.grownBy w8 (some w1.heap.size) := (by rw [← hw8]; (repeat (with_reducible refine only_cell ?_ _ _)); with_reducible exact only_refl _ _); clear hw8 kO fO hBO; have hz8 := hG8.size; have HA8 := Lib.hid ((hG8.block _ hBA (by simp; omega)).trans HA6.out); clear kA fA hBA; have kA := box_cells HA8.out; have fA := box_frozen HA8.out; have hBA := box_lt HA8.out; rw [HML.out] at kA; have Q1b := Lib.hid (Q1.out.keepBy hG8 (other_box HO6.out (by decide)) (other_box HO6.out (by decide))); clear Q1; have Q1 := Q1b; clear Q1b; have Q2b := Lib.hid (owns_keep Q2.out hG8 (other_box HO6.out (by decide))); clear Q2; have Q2 := Q2b; clear Q2b; have HR8 := Lib.hid ((hG8.block _ (by omega) (by simp; omega)).trans HR6.out); clear HR6; have hbw8 : Below w.heap.size w w8 := below_grown hbw6 hG8 (fun g e => by have := Option.some.inj e; omega) (by omega); have HO8 := Lib.hid hO8; clear hO8 hG8; refine wlm w1.heap.size (c1111 (.slice a1 xs.length cap1) (.slice sa1 ls.length scap1) d.p 5 0 0 d.start d.at_ f (u % 8) d.want d.utf d.end_) (range_of_box (t := 40) HO8.out) ?_))
           refine (l15Fail_any (tagK d f (u % 8) 5) a1 cap1 xs.length sa1 scap1 ls.length 9 d.at_ _).mono ?_
           rintro r w7 ⟨ea, ecap, rfl, ho7, hb7⟩
           have hz7 := hb7.size
           have Q1b := Lib.hid (Q1.out.chain hb7 (Nat.le_refl _)); clear Q1
           have Q2b := Lib.hid (owns_below Q2.out hb7 (Nat.le_refl _)); clear Q2
           have Q3 := Lib.hid (owns_le ho7 (show w.heap.size + 1 + 1 ≤ _ by omega)); clear ho7
           have HR7 := Lib.hid ((hb7.block _ (by omega)).trans HR8.out); clear HR8
           have hbw7 : Below w.heap.size w w7 := hbw8.trans (hb7.mono (by omega))
           go_wp2_with (first | ((with_reducible refine gs ?_); refine wsr (w.heap.size + 1) (c1110 (.slice a1 xs.length cap1) (.slice sa1 ls.length scap1) d.p 9 0 0 d.start d.at_ f (u % 8) 0 d.utf 10 0 0 0 ⟨#[]⟩ 9 d.at_).toArray HR7.out ?_))
           rw [HO2.out, failO]
           refine finDE (w := w) (R := w.heap.size + 1) (base := w.heap.size + 1 + 1) (e := failD (tagK d f (u % 8) 5) 9 d.at_) (ms := ls) (es := [failE 9 d.at_]) (rs := rs1) (a := a1) (cap := cap1) (sa := sa1) (scap := scap1) (ea := ea) (ecap := ecap) Tryz.results24 ?_ ?_ ?_ ?_ ?_ ?_ ?_ (by omega)
           ·rfl
           ·rfl
           ·exact hset_row (cs := dz0.toArray) HR7.out
           ·exact OwnShs.setRow Q1b.out (by omega) _
           ·exact owns_setRow Q2b.out (by omega) _
           ·exact owns_setRow Q3.out (by omega) _
           ·exact bl
          ·skip
           go_wp2_with fail
           refine (specWidthOf_any (u % 8) _).mono ?_
           rintro r _ ⟨rfl, rfl⟩
           rw [HWD.out]
           have HO2 := Lib.hid (tagO_ok (k := 5) hok hnb hwk hlast HF.out hnk HKk.out (by rw [htl, HWD.out]; omega))
           go_wp2_with (first | ((with_reducible refine gl ?_); generalize hw8 : World.setCell _ (⟨w1.heap.size, 4, none⟩ : Addr) (.int .i64 5) = w8; have hO8 : w8.heap[w1.heap.size]? = some (.cells (c1111 (.slice a1 xs.length cap1) (.slice sa1 ls.length scap1) d.p 5 0 0 d.start d.at_ f (u % 8) d.want d.utf d.end_).toArray 40 (0, 0)) := (by rw [← hw8]; apply hset_eq; (repeat (first | (with_reducible exact HO6.out) | (with_reducible apply hset_set))); simp only [List.setIfInBounds_toArray, List.set_cons_zero, List.set_cons_succ]); have hG8 : w6.grownBy w8 (some w1.heap.size) := (by rw [← hw8]; (repeat (with_reducible refine only_cell ?_ _ _)); with_reducible exact only_refl _ _); clear hw8 kO fO hBO; have hz8 := hG8.size; have HA8 := Lib.hid ((hG8.block _ hBA (by simp; omega)).trans HA6.out); clear kA fA hBA; have kA := box_cells HA8.out; have fA := box_frozen HA8.out; have hBA := box_lt HA8.out; rw [HML.out] at kA; have Q1b := Lib.hid (Q1.out.keepBy hG8 (other_box HO6.out (by decide)) (other_box HO6.out (by decide))); clear Q1; have Q1 := Q1b; clear Q1b; have Q2b := Lib.hid (owns_keep Q2.out hG8 (other_box HO6.out (by decide))); clear Q2; have Q2 := Q2b; clear Q2b; have HR8 := Lib.hid ((hG8.block _ (by omega) (by simp; omega)).trans HR6.out); clear HR6; have hbw8 : Below w.heap.size w w8 := below_grown hbw6 hG8 (fun g e => by have := Option.some.inj e; omega) (by omega); have HO8 := Lib.hid hO8; clear hO8 hG8; refine wlm w1.heap.size (c1111 (.slice a1 xs.length cap1) (.slice sa1 ls.length scap1) d.p 5 0 0 d.start d.at_ f (u % 8) d.want d.utf d.end_) (range_of_box (t := 40) HO8.out) ?_) | ((with_reducible refine gs ?_); refine wsr (w.heap.size + 1) (c1111 (.slice a1 xs.length cap1) (.slice sa1 ls.length scap1) d.p 5 0 0 d.start d.at_ f (u % 8) d.want d.utf d.end_).toArray (hset_alloc HR8.out) ?_))
           rw [HO2.out]
           refine finDE (w := w) (R := w.heap.size + 1) (base := w.heap.size + 1 + 1) (e := tagK d f (u % 8) 5) (ms := ls) (es := ([] : List Ev)) (rs := rs1) (a := a1) (cap := cap1) (sa := sa1) (scap := scap1) (ea := some ⟨w8.heap.size, 0, none⟩) (ecap := 0) Tryz.results24 ?_ ?_ ?_ ?_ ?_ ?_ ?_ (by omega)
           ·rfl
           ·rfl
           ·exact hset_row (cs := dz0.toArray) (hset_alloc HR8.out)
           ·exact OwnShs.setRow (Q1.out.alloc _) (by omega) _
           ·exact owns_setRow (Q2.out.alloc _) (by omega) _
           ·exact owns_setRow (owns_le (own_built w8 38 7) (by omega)) (by omega) _
           ·exact bl
      ·go_wp2_with fail
       refine (specAllowed_any f (u % 8) _ hwk).mono ?_
       rintro r w9 ⟨rfl, hb9⟩
       have hz9 := hb9.size
       have HO9 := Lib.hid ((hb9.block _ (box_lt HO6.out)).trans HO6.out); clear HO6
       have HA9 := Lib.hid ((hb9.block _ (box_lt HA6.out)).trans HA6.out); clear HA6
       have HR9 := Lib.hid ((hb9.block _ (box_lt HR6.out)).trans HR6.out); clear HR6
       have Q1b := Lib.hid (Q1.out.chain hb9 (Nat.le_refl _)); clear Q1; have Q1 := Q1b; clear Q1b
       have Q2b := Lib.hid (owns_below Q2.out hb9 (Nat.le_refl _)); clear Q2; have Q2 := Q2b; clear Q2b
       have hbw9 : Below w.heap.size w w9 := hbw6.trans (hb9.mono (by omega))
       have c1_ := (hb9.cell (p := ⟨b, off + m * 2 + 1, none⟩) hlb6).trans c1; clear c1; have c1 := c1_; clear c1_
       have hF9 := (hb9.block _ hBF).trans HF6.out
       clear kF fF hBF HF6 kO fO hBO kA fA hBA
       have kF := box_cells hF9; have fF := box_frozen hF9; have hBF := box_lt hF9; clear hF9 hb9
       have kO := box_cells HO9.out; have fO := box_frozen HO9.out; have hBO := box_lt HO9.out
       have kA := box_cells HA9.out; have fA := box_frozen HA9.out; have hBA := box_lt HA9.out
       rw [HML.out] at kA
       cases ha : allowed f (u % 8)
       ·skip
        have HO2 := Lib.hid (tagO_kind (xs := xs) hok hnb hwk hlast HF.out hkn ha)
        go_wp2_with (first | ((with_reducible refine gl ?_); refine wlm w1.heap.size (c1111 (.slice a1 xs.length cap1) (.slice sa1 ls.length scap1) d.p d.mode 0 0 d.start d.at_ d.field d.wire d.want d.utf d.end_) (range_of_box (t := 40) HO9.out) ?_))
        refine (l15Fail_any (scan0 d) a1 cap1 xs.length sa1 scap1 ls.length 4 d.start _).mono ?_
        rintro r w7 ⟨ea, ecap, rfl, ho7, hb7⟩
        have hz7 := hb7.size
        have Q1b := Lib.hid (Q1.out.chain hb7 (Nat.le_refl _)); clear Q1
        have Q2b := Lib.hid (owns_below Q2.out hb7 (Nat.le_refl _)); clear Q2
        have Q3 := Lib.hid (owns_le ho7 (show w.heap.size + 1 + 1 ≤ _ by omega)); clear ho7
        have HR7 := Lib.hid ((hb7.block _ (by omega)).trans HR9.out); clear HR9
        have hbw7 : Below w.heap.size w w7 := hbw9.trans (hb7.mono (by omega))
        go_wp2_with (first | ((with_reducible refine gs ?_); refine wsr (w.heap.size + 1) (c1110 (.slice a1 xs.length cap1) (.slice sa1 ls.length scap1) d.p 9 0 0 d.start d.at_ d.field d.wire 0 d.utf 10 0 0 0 ⟨#[]⟩ 4 d.start).toArray HR7.out ?_))
        rw [HO2.out, failO]
        refine finDE (w := w) (R := w.heap.size + 1) (base := w.heap.size + 1 + 1) (e := failD (scan0 d) 4 d.start) (ms := ls) (es := [failE 4 d.start]) (rs := rs1) (a := a1) (cap := cap1) (sa := sa1) (scap := scap1) (ea := ea) (ecap := ecap) Tryz.results24 ?_ ?_ ?_ ?_ ?_ ?_ ?_ (by omega)
        ·rfl
        ·rfl
        ·exact hset_row (cs := dz0.toArray) HR7.out
        ·exact OwnShs.setRow Q1b.out (by omega) _
        ·exact owns_setRow Q2b.out (by omega) _
        ·exact owns_setRow Q3.out (by omega) _
        ·exact bl
       ·skip
        have hnk : ¬ (kn = true ∧ allowed f (u % 8) = false) := by rw [hkn]; simp [ha]
        by_cases hv0 : u % 8 = 0
        ·have g0 : (u % 8 == 0) = true := by simp; omega
         have hwd : widthOf (u % 8) = 0 := by rw [hv0]; rfl
         have hK : (3 : Int) = if u % 8 = 0 then 3 else if u % 8 = 2 then 4 else 5 := by rw [hv0]; rfl
         have HKk := Lib.hid hK; have HWD := Lib.hid hwd; clear hK hwd
         clear hv0
         by_cases ht : l.left < 1
         ·skip
          have HO2 := Lib.hid (tagO_end (k := 3) hok hnb hwk hlast HF.out hnk HKk.out (by rw [htl, HWD.out]; omega))
          go_wp2_with (first | ((with_reducible refine gl ?_); generalize hw8 : World.setCell _ (⟨w1.heap.size, 4, none⟩ : Addr) (.int .i64 3) = w8; have hO8 : w8.heap[w1.heap.size]? = some (.cells (c1111 (.slice a1 xs.length cap1) (.slice sa1 ls.length scap1) d.p 3 0 0 d.start d.at_ f (u % 8) d.want d.utf d.end_).toArray 40 (0, 0)) := (by rw [← hw8]; apply hset_eq; (repeat (first | (with_reducible exact HO9.out) | (with_reducible apply hset_set))); simp only [List.setIfInBounds_toArray, List.set_cons_zero, List.set_cons_succ]); have hG8 : w9.grownBy w8 (some w1.heap.size) := (by rw [← hw8]; (repeat (with_reducible refine only_cell ?_ _ _)); with_reducible exact only_refl _ _); clear hw8 kO fO hBO; have hz8 := hG8.size; have HA8 := Lib.hid ((hG8.block _ hBA (by simp; omega)).trans HA9.out); clear kA fA hBA; have kA := box_cells HA8.out; have fA := box_frozen HA8.out; have hBA := box_lt HA8.out; rw [HML.out] at kA; have Q1b := Lib.hid (Q1.out.keepBy hG8 (other_box HO9.out (by decide)) (other_box HO9.out (by decide))); clear Q1; have Q1 := Q1b; clear Q1b; have Q2b := Lib.hid (owns_keep Q2.out hG8 (other_box HO9.out (by decide))); clear Q2; have Q2 := Q2b; clear Q2b; have HR8 := Lib.hid ((hG8.block _ (by omega) (by simp; omega)).trans HR9.out); clear HR9; have hbw8 : Below w.heap.size w w8 := below_grown hbw9 hG8 (fun g e => by have := Option.some.inj e; omega) (by omega); have HO8 := Lib.hid hO8; clear hO8 hG8; refine wlm w1.heap.size (c1111 (.slice a1 xs.length cap1) (.slice sa1 ls.length scap1) d.p 3 0 0 d.start d.at_ f (u % 8) d.want d.utf d.end_) (range_of_box (t := 40) HO8.out) ?_))
          refine (l15Fail_any (tagK d f (u % 8) 3) a1 cap1 xs.length sa1 scap1 ls.length 9 d.at_ _).mono ?_
          rintro r w7 ⟨ea, ecap, rfl, ho7, hb7⟩
          have hz7 := hb7.size
          have Q1b := Lib.hid (Q1.out.chain hb7 (Nat.le_refl _)); clear Q1
          have Q2b := Lib.hid (owns_below Q2.out hb7 (Nat.le_refl _)); clear Q2
          have Q3 := Lib.hid (owns_le ho7 (show w.heap.size + 1 + 1 ≤ _ by omega)); clear ho7
          have HR7 := Lib.hid ((hb7.block _ (by omega)).trans HR8.out); clear HR8
          have hbw7 : Below w.heap.size w w7 := hbw8.trans (hb7.mono (by omega))
          go_wp2_with (first | ((with_reducible refine gs ?_); refine wsr (w.heap.size + 1) (c1110 (.slice a1 xs.length cap1) (.slice sa1 ls.length scap1) d.p 9 0 0 d.start d.at_ f (u % 8) 0 d.utf 10 0 0 0 ⟨#[]⟩ 9 d.at_).toArray HR7.out ?_))
          rw [HO2.out, failO]
          refine finDE (w := w) (R := w.heap.size + 1) (base := w.heap.size + 1 + 1) (e := failD (tagK d f (u % 8) 3) 9 d.at_) (ms := ls) (es := [failE 9 d.at_]) (rs := rs1) (a := a1) (cap := cap1) (sa := sa1) (scap := scap1) (ea := ea) (ecap := ecap) Tryz.results24 ?_ ?_ ?_ ?_ ?_ ?_ ?_ (by omega)
          ·rfl
          ·rfl
          ·exact hset_row (cs := dz0.toArray) HR7.out
          ·exact OwnShs.setRow Q1b.out (by omega) _
          ·exact owns_setRow Q2b.out (by omega) _
          ·exact owns_setRow Q3.out (by omega) _
          ·exact bl
         ·skip
          have HO2 := Lib.hid (tagO_ok (k := 3) hok hnb hwk hlast HF.out hnk HKk.out (by rw [htl, HWD.out]; omega))
          go_wp2_with (first | ((with_reducible refine gl ?_); generalize hw8 : World.setCell _ (⟨w1.heap.size, 4, none⟩ : Addr) (.int .i64 3) = w8; have hO8 : w8.heap[w1.heap.size]? = some (.cells (c1111 (.slice a1 xs.length cap1) (.slice sa1 ls.length scap1) d.p 3 0 0 d.start d.at_ f (u % 8) d.want d.utf d.end_).toArray 40 (0, 0)) := (by rw [← hw8]; apply hset_eq; (repeat (first | (with_reducible exact HO9.out) | (with_reducible apply hset_set))); simp only [List.setIfInBounds_toArray, List.set_cons_zero, List.set_cons_succ]); have hG8 : w9.grownBy w8 (some w1.heap.size) := (by rw [← hw8]; (repeat (with_reducible refine only_cell ?_ _ _)); with_reducible exact only_refl _ _); clear hw8 kO fO hBO; have hz8 := hG8.size; have HA8 := Lib.hid ((hG8.block _ hBA (by simp; omega)).trans HA9.out); clear kA fA hBA; have kA := box_cells HA8.out; have fA := box_frozen HA8.out; have hBA := box_lt HA8.out; rw [HML.out] at kA; have Q1b := Lib.hid (Q1.out.keepBy hG8 (other_box HO9.out (by decide)) (other_box HO9.out (by decide))); clear Q1; have Q1 := Q1b; clear Q1b; have Q2b := Lib.hid (owns_keep Q2.out hG8 (other_box HO9.out (by decide))); clear Q2; have Q2 := Q2b; clear Q2b; have HR8 := Lib.hid ((hG8.block _ (by omega) (by simp; omega)).trans HR9.out); clear HR9; have hbw8 : Below w.heap.size w w8 := below_grown hbw9 hG8 (fun g e => by have := Option.some.inj e; omega) (by omega); have HO8 := Lib.hid hO8; clear hO8 hG8; refine wlm w1.heap.size (c1111 (.slice a1 xs.length cap1) (.slice sa1 ls.length scap1) d.p 3 0 0 d.start d.at_ f (u % 8) d.want d.utf d.end_) (range_of_box (t := 40) HO8.out) ?_) | ((with_reducible refine gs ?_); refine wsr (w.heap.size + 1) (c1111 (.slice a1 xs.length cap1) (.slice sa1 ls.length scap1) d.p 3 0 0 d.start d.at_ f (u % 8) d.want d.utf d.end_).toArray (hset_alloc HR8.out) ?_))
          rw [HO2.out]
          refine finDE (w := w) (R := w.heap.size + 1) (base := w.heap.size + 1 + 1) (e := tagK d f (u % 8) 3) (ms := ls) (es := ([] : List Ev)) (rs := rs1) (a := a1) (cap := cap1) (sa := sa1) (scap := scap1) (ea := some ⟨w8.heap.size, 0, none⟩) (ecap := 0) Tryz.results24 ?_ ?_ ?_ ?_ ?_ ?_ ?_ (by omega)
          ·rfl
          ·rfl
          ·exact hset_row (cs := dz0.toArray) (hset_alloc HR8.out)
          ·exact OwnShs.setRow (Q1.out.alloc _) (by omega) _
          ·exact owns_setRow (Q2.out.alloc _) (by omega) _
          ·exact owns_setRow (owns_le (own_built w8 38 7) (by omega)) (by omega) _
          ·exact bl
        ·by_cases hv2 : u % 8 = 2
         ·have g0 : (u % 8 == 0) = false := by simp; omega
          have g2 : (u % 8 == 2) = true := by simp; omega
          have hwd : widthOf (u % 8) = 0 := by rw [hv2]; rfl
          have hK : (4 : Int) = if u % 8 = 0 then 3 else if u % 8 = 2 then 4 else 5 := by rw [hv2]; rfl
          have HKk := Lib.hid hK; have HWD := Lib.hid hwd; clear hK hwd
          clear hv2
          by_cases ht : l.left < 1
          ·skip
           have HO2 := Lib.hid (tagO_end (k := 4) hok hnb hwk hlast HF.out hnk HKk.out (by rw [htl, HWD.out]; omega))
           go_wp2_with (first | ((with_reducible refine gl ?_); generalize hw8 : World.setCell _ (⟨w1.heap.size, 4, none⟩ : Addr) (.int .i64 4) = w8; have hO8 : w8.heap[w1.heap.size]? = some (.cells (c1111 (.slice a1 xs.length cap1) (.slice sa1 ls.length scap1) d.p 4 0 0 d.start d.at_ f (u % 8) d.want d.utf d.end_).toArray 40 (0, 0)) := (by rw [← hw8]; apply hset_eq; (repeat (first | (with_reducible exact HO9.out) | (with_reducible apply hset_set))); simp only [List.setIfInBounds_toArray, List.set_cons_zero, List.set_cons_succ]); have hG8 : w9.grownBy w8 (some w1.heap.size) := (by rw [← hw8]; (repeat (with_reducible refine only_cell ?_ _ _)); with_reducible exact only_refl _ _); clear hw8 kO fO hBO; have hz8 := hG8.size; have HA8 := Lib.hid ((hG8.block _ hBA (by simp; omega)).trans HA9.out); clear kA fA hBA; have kA := box_cells HA8.out; have fA := box_frozen HA8.out; have hBA := box_lt HA8.out; rw [HML.out] at kA; have Q1b := Lib.hid (Q1.out.keepBy hG8 (other_box HO9.out (by decide)) (other_box HO9.out (by decide))); clear Q1; have Q1 := Q1b; clear Q1b; have Q2b := Lib.hid (owns_keep Q2.out hG8 (other_box HO9.out (by decide))); clear Q2; have Q2 := Q2b; clear Q2b; have HR8 := Lib.hid ((hG8.block _ (by omega) (by simp; omega)).trans HR9.out); clear HR9; have hbw8 : Below w.heap.size w w8 := below_grown hbw9 hG8 (fun g e => by have := Option.some.inj e; omega) (by omega); have HO8 := Lib.hid hO8; clear hO8 hG8; refine wlm w1.heap.size (c1111 (.slice a1 xs.length cap1) (.slice sa1 ls.length scap1) d.p 4 0 0 d.start d.at_ f (u % 8) d.want d.utf d.end_) (range_of_box (t := 40) HO8.out) ?_))
           refine (l15Fail_any (tagK d f (u % 8) 4) a1 cap1 xs.length sa1 scap1 ls.length 9 d.at_ _).mono ?_
           rintro r w7 ⟨ea, ecap, rfl, ho7, hb7⟩
           have hz7 := hb7.size
           have Q1b := Lib.hid (Q1.out.chain hb7 (Nat.le_refl _)); clear Q1
           have Q2b := Lib.hid (owns_below Q2.out hb7 (Nat.le_refl _)); clear Q2
           have Q3 := Lib.hid (owns_le ho7 (show w.heap.size + 1 + 1 ≤ _ by omega)); clear ho7
           have HR7 := Lib.hid ((hb7.block _ (by omega)).trans HR8.out); clear HR8
           have hbw7 : Below w.heap.size w w7 := hbw8.trans (hb7.mono (by omega))
           go_wp2_with (first | ((with_reducible refine gs ?_); refine wsr (w.heap.size + 1) (c1110 (.slice a1 xs.length cap1) (.slice sa1 ls.length scap1) d.p 9 0 0 d.start d.at_ f (u % 8) 0 d.utf 10 0 0 0 ⟨#[]⟩ 9 d.at_).toArray HR7.out ?_))
           rw [HO2.out, failO]
           refine finDE (w := w) (R := w.heap.size + 1) (base := w.heap.size + 1 + 1) (e := failD (tagK d f (u % 8) 4) 9 d.at_) (ms := ls) (es := [failE 9 d.at_]) (rs := rs1) (a := a1) (cap := cap1) (sa := sa1) (scap := scap1) (ea := ea) (ecap := ecap) Tryz.results24 ?_ ?_ ?_ ?_ ?_ ?_ ?_ (by omega)
           ·rfl
           ·rfl
           ·exact hset_row (cs := dz0.toArray) HR7.out
           ·exact OwnShs.setRow Q1b.out (by omega) _
           ·exact owns_setRow Q2b.out (by omega) _
           ·exact owns_setRow Q3.out (by omega) _
           ·exact bl
          ·skip
           have HO2 := Lib.hid (tagO_ok (k := 4) hok hnb hwk hlast HF.out hnk HKk.out (by rw [htl, HWD.out]; omega))
           go_wp2_with (first | ((with_reducible refine gl ?_); generalize hw8 : World.setCell _ (⟨w1.heap.size, 4, none⟩ : Addr) (.int .i64 4) = w8; have hO8 : w8.heap[w1.heap.size]? = some (.cells (c1111 (.slice a1 xs.length cap1) (.slice sa1 ls.length scap1) d.p 4 0 0 d.start d.at_ f (u % 8) d.want d.utf d.end_).toArray 40 (0, 0)) := (by rw [← hw8]; apply hset_eq; (repeat (first | (with_reducible exact HO9.out) | (with_reducible apply hset_set))); simp only [List.setIfInBounds_toArray, List.set_cons_zero, List.set_cons_succ]); have hG8 : w9.grownBy w8 (some w1.heap.size) := (by rw [← hw8]; (repeat (with_reducible refine only_cell ?_ _ _)); with_reducible exact only_refl _ _); clear hw8 kO fO hBO; have hz8 := hG8.size; have HA8 := Lib.hid ((hG8.block _ hBA (by simp; omega)).trans HA9.out); clear kA fA hBA; have kA := box_cells HA8.out; have fA := box_frozen HA8.out; have hBA := box_lt HA8.out; rw [HML.out] at kA; have Q1b := Lib.hid (Q1.out.keepBy hG8 (other_box HO9.out (by decide)) (other_box HO9.out (by decide))); clear Q1; have Q1 := Q1b; clear Q1b; have Q2b := Lib.hid (owns_keep Q2.out hG8 (other_box HO9.out (by decide))); clear Q2; have Q2 := Q2b; clear Q2b; have HR8 := Lib.hid ((hG8.block _ (by omega) (by simp; omega)).trans HR9.out); clear HR9; have hbw8 : Below w.heap.size w w8 := below_grown hbw9 hG8 (fun g e => by have := Option.some.inj e; omega) (by omega); have HO8 := Lib.hid hO8; clear hO8 hG8; refine wlm w1.heap.size (c1111 (.slice a1 xs.length cap1) (.slice sa1 ls.length scap1) d.p 4 0 0 d.start d.at_ f (u % 8) d.want d.utf d.end_) (range_of_box (t := 40) HO8.out) ?_) | ((with_reducible refine gs ?_); refine wsr (w.heap.size + 1) (c1111 (.slice a1 xs.length cap1) (.slice sa1 ls.length scap1) d.p 4 0 0 d.start d.at_ f (u % 8) d.want d.utf d.end_).toArray (hset_alloc HR8.out) ?_))
           rw [HO2.out]
           refine finDE (w := w) (R := w.heap.size + 1) (base := w.heap.size + 1 + 1) (e := tagK d f (u % 8) 4) (ms := ls) (es := ([] : List Ev)) (rs := rs1) (a := a1) (cap := cap1) (sa := sa1) (scap := scap1) (ea := some ⟨w8.heap.size, 0, none⟩) (ecap := 0) Tryz.results24 ?_ ?_ ?_ ?_ ?_ ?_ ?_ (by omega)
           ·rfl
           ·rfl
           ·exact hset_row (cs := dz0.toArray) (hset_alloc HR8.out)
           ·exact OwnShs.setRow (Q1.out.alloc _) (by omega) _
           ·exact owns_setRow (Q2.out.alloc _) (by omega) _
           ·exact owns_setRow (owns_le (own_built w8 38 7) (by omega)) (by omega) _
           ·exact bl
         ·have g0 : (u % 8 == 0) = false := by simp; omega
          have g2 : (u % 8 == 2) = false := by simp; omega
          by_cases hv1 : u % 8 = 1
          ·skip
           have hwd : widthOf (u % 8) = 8 := by rw [hv1]; rfl
           have hK : (5 : Int) = if u % 8 = 0 then 3 else if u % 8 = 2 then 4 else 5 := by rw [hv1]; rfl
           have HKk := Lib.hid hK; have HWD := Lib.hid hwd; clear hK hwd
           clear hv1
           by_cases ht : l.left < 8
           ·skip
            go_wp2_with fail
            refine (specWidthOf_any (u % 8) _).mono ?_
            rintro r _ ⟨rfl, rfl⟩
            rw [HWD.out]
            have HO2 := Lib.hid (tagO_end (k := 5) hok hnb hwk hlast HF.out hnk HKk.out (by rw [htl, HWD.out]; omega))
            go_wp2_with (first | ((with_reducible refine gl ?_); generalize hw8 : World.setCell _ (⟨w1.heap.size, 4, none⟩ : Addr) (.int .i64 5) = w8; have hO8 : w8.heap[w1.heap.size]? = some (.cells (c1111 (.slice a1 xs.length cap1) (.slice sa1 ls.length scap1) d.p 5 0 0 d.start d.at_ f (u % 8) d.want d.utf d.end_).toArray 40 (0, 0)) := (by rw [← hw8]; apply hset_eq; (repeat (first | (with_reducible exact HO9.out) | (with_reducible apply hset_set))); simp only [List.setIfInBounds_toArray, List.set_cons_zero, List.set_cons_succ]); have hG8 : w9.grownBy w8 (some w1.heap.size) := (by rw [← hw8]; (repeat (with_reducible refine only_cell ?_ _ _)); with_reducible exact only_refl _ _); clear hw8 kO fO hBO; have hz8 := hG8.size; have HA8 := Lib.hid ((hG8.block _ hBA (by simp; omega)).trans HA9.out); clear kA fA hBA; have kA := box_cells HA8.out; have fA := box_frozen HA8.out; have hBA := box_lt HA8.out; rw [HML.out] at kA; have Q1b := Lib.hid (Q1.out.keepBy hG8 (other_box HO9.out (by decide)) (other_box HO9.out (by decide))); clear Q1; have Q1 := Q1b; clear Q1b; have Q2b := Lib.hid (owns_keep Q2.out hG8 (other_box HO9.out (by decide))); clear Q2; have Q2 := Q2b; clear Q2b; have HR8 := Lib.hid ((hG8.block _ (by omega) (by simp; omega)).trans HR9.out); clear HR9; have hbw8 : Below w.heap.size w w8 := below_grown hbw9 hG8 (fun g e => by have := Option.some.inj e; omega) (by omega); have HO8 := Lib.hid hO8; clear hO8 hG8; refine wlm w1.heap.size (c1111 (.slice a1 xs.length cap1) (.slice sa1 ls.length scap1) d.p 5 0 0 d.start d.at_ f (u % 8) d.want d.utf d.end_) (range_of_box (t := 40) HO8.out) ?_))
            refine (l15Fail_any (tagK d f (u % 8) 5) a1 cap1 xs.length sa1 scap1 ls.length 9 d.at_ _).mono ?_
            rintro r w7 ⟨ea, ecap, rfl, ho7, hb7⟩
            have hz7 := hb7.size
            have Q1b := Lib.hid (Q1.out.chain hb7 (Nat.le_refl _)); clear Q1
            have Q2b := Lib.hid (owns_below Q2.out hb7 (Nat.le_refl _)); clear Q2
            have Q3 := Lib.hid (owns_le ho7 (show w.heap.size + 1 + 1 ≤ _ by omega)); clear ho7
            have HR7 := Lib.hid ((hb7.block _ (by omega)).trans HR8.out); clear HR8
            have hbw7 : Below w.heap.size w w7 := hbw8.trans (hb7.mono (by omega))
            go_wp2_with (first | ((with_reducible refine gs ?_); refine wsr (w.heap.size + 1) (c1110 (.slice a1 xs.length cap1) (.slice sa1 ls.length scap1) d.p 9 0 0 d.start d.at_ f (u % 8) 0 d.utf 10 0 0 0 ⟨#[]⟩ 9 d.at_).toArray HR7.out ?_))
            rw [HO2.out, failO]
            refine finDE (w := w) (R := w.heap.size + 1) (base := w.heap.size + 1 + 1) (e := failD (tagK d f (u % 8) 5) 9 d.at_) (ms := ls) (es := [failE 9 d.at_]) (rs := rs1) (a := a1) (cap := cap1) (sa := sa1) (scap := scap1) (ea := ea) (ecap := ecap) Tryz.results24 ?_ ?_ ?_ ?_ ?_ ?_ ?_ (by omega)
            ·rfl
            ·rfl
            ·exact hset_row (cs := dz0.toArray) HR7.out
            ·exact OwnShs.setRow Q1b.out (by omega) _
            ·exact owns_setRow Q2b.out (by omega) _
            ·exact owns_setRow Q3.out (by omega) _
            ·exact bl
           ·skip
            go_wp2_with fail
            refine (specWidthOf_any (u % 8) _).mono ?_
            rintro r _ ⟨rfl, rfl⟩
            rw [HWD.out]
            have HO2 := Lib.hid (tagO_ok (k := 5) hok hnb hwk hlast HF.out hnk HKk.out (by rw [htl, HWD.out]; omega))
            go_wp2_with (first | ((with_reducible refine gl ?_); generalize hw8 : World.setCell _ (⟨w1.heap.size, 4, none⟩ : Addr) (.int .i64 5) = w8; have hO8 : w8.heap[w1.heap.size]? = some (.cells (c1111 (.slice a1 xs.length cap1) (.slice sa1 ls.length scap1) d.p 5 0 0 d.start d.at_ f (u % 8) d.want d.utf d.end_).toArray 40 (0, 0)) := (by rw [← hw8]; apply hset_eq; (repeat (first | (with_reducible exact HO9.out) | (with_reducible apply hset_set))); simp only [List.setIfInBounds_toArray, List.set_cons_zero, List.set_cons_succ]); have hG8 : w9.grownBy w8 (some w1.heap.size) := (by rw [← hw8]; (repeat (with_reducible refine only_cell ?_ _ _)); with_reducible exact only_refl _ _); clear hw8 kO fO hBO; have hz8 := hG8.size; have HA8 := Lib.hid ((hG8.block _ hBA (by simp; omega)).trans HA9.out); clear kA fA hBA; have kA := box_cells HA8.out; have fA := box_frozen HA8.out; have hBA := box_lt HA8.out; rw [HML.out] at kA; have Q1b := Lib.hid (Q1.out.keepBy hG8 (other_box HO9.out (by decide)) (other_box HO9.out (by decide))); clear Q1; have Q1 := Q1b; clear Q1b; have Q2b := Lib.hid (owns_keep Q2.out hG8 (other_box HO9.out (by decide))); clear Q2; have Q2 := Q2b; clear Q2b; have HR8 := Lib.hid ((hG8.block _ (by omega) (by simp; omega)).trans HR9.out); clear HR9; have hbw8 : Below w.heap.size w w8 := below_grown hbw9 hG8 (fun g e => by have := Option.some.inj e; omega) (by omega); have HO8 := Lib.hid hO8; clear hO8 hG8; refine wlm w1.heap.size (c1111 (.slice a1 xs.length cap1) (.slice sa1 ls.length scap1) d.p 5 0 0 d.start d.at_ f (u % 8) d.want d.utf d.end_) (range_of_box (t := 40) HO8.out) ?_) | ((with_reducible refine gs ?_); refine wsr (w.heap.size + 1) (c1111 (.slice a1 xs.length cap1) (.slice sa1 ls.length scap1) d.p 5 0 0 d.start d.at_ f (u % 8) d.want d.utf d.end_).toArray (hset_alloc HR8.out) ?_))
            rw [HO2.out]
            refine finDE (w := w) (R := w.heap.size + 1) (base := w.heap.size + 1 + 1) (e := tagK d f (u % 8) 5) (ms := ls) (es := ([] : List Ev)) (rs := rs1) (a := a1) (cap := cap1) (sa := sa1) (scap := scap1) (ea := some ⟨w8.heap.size, 0, none⟩) (ecap := 0) Tryz.results24 ?_ ?_ ?_ ?_ ?_ ?_ ?_ (by omega)
            ·rfl
            ·rfl
            ·exact hset_row (cs := dz0.toArray) (hset_alloc HR8.out)
            ·exact OwnShs.setRow (Q1.out.alloc _) (by omega) _
            ·exact owns_setRow (Q2.out.alloc _) (by omega) _
            ·exact owns_setRow (owns_le (own_built w8 38 7) (by omega)) (by omega) _
            ·exact bl
          ·have hv5 : u % 8 = 5 := by simp only [wireOk, Bool.or_eq_true, beq_iff_eq] at hwk; omega
           have hwd : widthOf (u % 8) = 4 := by rw [hv5]; rfl
           have hK : (5 : Int) = if u % 8 = 0 then 3 else if u % 8 = 2 then 4 else 5 := by rw [hv5]; rfl
           have HKk := Lib.hid hK; have HWD := Lib.hid hwd; clear hK hwd
           clear hv5
           by_cases ht : l.left < 4
           ·skip
            go_wp2_with fail
            refine (specWidthOf_any (u % 8) _).mono ?_
            rintro r _ ⟨rfl, rfl⟩
            rw [HWD.out]
            have HO2 := Lib.hid (tagO_end (k := 5) hok hnb hwk hlast HF.out hnk HKk.out (by rw [htl, HWD.out]; omega))
            go_wp2_with (first | ((with_reducible refine gl ?_); generalize hw8 : World.setCell _ (⟨w1.heap.size, 4, none⟩ : Addr) (.int .i64 5) = w8; have hO8 : w8.heap[w1.heap.size]? = some (.cells (c1111 (.slice a1 xs.length cap1) (.slice sa1 ls.length scap1) d.p 5 0 0 d.start d.at_ f (u % 8) d.want d.utf d.end_).toArray 40 (0, 0)) := (by rw [← hw8]; apply hset_eq; (repeat (first | (with_reducible exact HO9.out) | (with_reducible apply hset_set))); simp only [List.setIfInBounds_toArray, List.set_cons_zero, List.set_cons_succ]); have hG8 : w9.grownBy w8 (some w1.heap.size) := (by rw [← hw8]; (repeat (with_reducible refine only_cell ?_ _ _)); with_reducible exact only_refl _ _); clear hw8 kO fO hBO; have hz8 := hG8.size; have HA8 := Lib.hid ((hG8.block _ hBA (by simp; omega)).trans HA9.out); clear kA fA hBA; have kA := box_cells HA8.out; have fA := box_frozen HA8.out; have hBA := box_lt HA8.out; rw [HML.out] at kA; have Q1b := Lib.hid (Q1.out.keepBy hG8 (other_box HO9.out (by decide)) (other_box HO9.out (by decide))); clear Q1; have Q1 := Q1b; clear Q1b; have Q2b := Lib.hid (owns_keep Q2.out hG8 (other_box HO9.out (by decide))); clear Q2; have Q2 := Q2b; clear Q2b; have HR8 := Lib.hid ((hG8.block _ (by omega) (by simp; omega)).trans HR9.out); clear HR9; have hbw8 : Below w.heap.size w w8 := below_grown hbw9 hG8 (fun g e => by have := Option.some.inj e; omega) (by omega); have HO8 := Lib.hid hO8; clear hO8 hG8; refine wlm w1.heap.size (c1111 (.slice a1 xs.length cap1) (.slice sa1 ls.length scap1) d.p 5 0 0 d.start d.at_ f (u % 8) d.want d.utf d.end_) (range_of_box (t := 40) HO8.out) ?_))
            refine (l15Fail_any (tagK d f (u % 8) 5) a1 cap1 xs.length sa1 scap1 ls.length 9 d.at_ _).mono ?_
            rintro r w7 ⟨ea, ecap, rfl, ho7, hb7⟩
            have hz7 := hb7.size
            have Q1b := Lib.hid (Q1.out.chain hb7 (Nat.le_refl _)); clear Q1
            have Q2b := Lib.hid (owns_below Q2.out hb7 (Nat.le_refl _)); clear Q2
            have Q3 := Lib.hid (owns_le ho7 (show w.heap.size + 1 + 1 ≤ _ by omega)); clear ho7
            have HR7 := Lib.hid ((hb7.block _ (by omega)).trans HR8.out); clear HR8
            have hbw7 : Below w.heap.size w w7 := hbw8.trans (hb7.mono (by omega))
            go_wp2_with (first | ((with_reducible refine gs ?_); refine wsr (w.heap.size + 1) (c1110 (.slice a1 xs.length cap1) (.slice sa1 ls.length scap1) d.p 9 0 0 d.start d.at_ f (u % 8) 0 d.utf 10 0 0 0 ⟨#[]⟩ 9 d.at_).toArray HR7.out ?_))
            rw [HO2.out, failO]
            refine finDE (w := w) (R := w.heap.size + 1) (base := w.heap.size + 1 + 1) (e := failD (tagK d f (u % 8) 5) 9 d.at_) (ms := ls) (es := [failE 9 d.at_]) (rs := rs1) (a := a1) (cap := cap1) (sa := sa1) (scap := scap1) (ea := ea) (ecap := ecap) Tryz.results24 ?_ ?_ ?_ ?_ ?_ ?_ ?_ (by omega)
            ·rfl
            ·rfl
            ·exact hset_row (cs := dz0.toArray) HR7.out
            ·exact OwnShs.setRow Q1b.out (by omega) _
            ·exact owns_setRow Q2b.out (by omega) _
            ·exact owns_setRow Q3.out (by omega) _
            ·exact bl
           ·skip
            go_wp2_with fail
            refine (specWidthOf_any (u % 8) _).mono ?_
            rintro r _ ⟨rfl, rfl⟩
            rw [HWD.out]
            have HO2 := Lib.hid (tagO_ok (k := 5) hok hnb hwk hlast HF.out hnk HKk.out (by rw [htl, HWD.out]; omega))
            go_wp2_with (first | ((with_reducible refine gl ?_); generalize hw8 : World.setCell _ (⟨w1.heap.size, 4, none⟩ : Addr) (.int .i64 5) = w8; have hO8 : w8.heap[w1.heap.size]? = some (.cells (c1111 (.slice a1 xs.length cap1) (.slice sa1 ls.length scap1) d.p 5 0 0 d.start d.at_ f (u % 8) d.want d.utf d.end_).toArray 40 (0, 0)) := (by rw [← hw8]; apply hset_eq; (repeat (first | (with_reducible exact HO9.out) | (with_reducible apply hset_set))); simp only [List.setIfInBounds_toArray, List.set_cons_zero, List.set_cons_succ]); have hG8 : w9.grownBy w8 (some w1.heap.size) := (by rw [← hw8]; (repeat (with_reducible refine only_cell ?_ _ _)); with_reducible exact only_refl _ _); clear hw8 kO fO hBO; have hz8 := hG8.size; have HA8 := Lib.hid ((hG8.block _ hBA (by simp; omega)).trans HA9.out); clear kA fA hBA; have kA := box_cells HA8.out; have fA := box_frozen HA8.out; have hBA := box_lt HA8.out; rw [HML.out] at kA; have Q1b := Lib.hid (Q1.out.keepBy hG8 (other_box HO9.out (by decide)) (other_box HO9.out (by decide))); clear Q1; have Q1 := Q1b; clear Q1b; have Q2b := Lib.hid (owns_keep Q2.out hG8 (other_box HO9.out (by decide))); clear Q2; have Q2 := Q2b; clear Q2b; have HR8 := Lib.hid ((hG8.block _ (by omega) (by simp; omega)).trans HR9.out); clear HR9; have hbw8 : Below w.heap.size w w8 := below_grown hbw9 hG8 (fun g e => by have := Option.some.inj e; omega) (by omega); have HO8 := Lib.hid hO8; clear hO8 hG8; refine wlm w1.heap.size (c1111 (.slice a1 xs.length cap1) (.slice sa1 ls.length scap1) d.p 5 0 0 d.start d.at_ f (u % 8) d.want d.utf d.end_) (range_of_box (t := 40) HO8.out) ?_) | ((with_reducible refine gs ?_); refine wsr (w.heap.size + 1) (c1111 (.slice a1 xs.length cap1) (.slice sa1 ls.length scap1) d.p 5 0 0 d.start d.at_ f (u % 8) d.want d.utf d.end_).toArray (hset_alloc HR8.out) ?_))
            rw [HO2.out]
            refine finDE (w := w) (R := w.heap.size + 1) (base := w.heap.size + 1 + 1) (e := tagK d f (u % 8) 5) (ms := ls) (es := ([] : List Ev)) (rs := rs1) (a := a1) (cap := cap1) (sa := sa1) (scap := scap1) (ea := some ⟨w8.heap.size, 0, none⟩) (ecap := 0) Tryz.results24 ?_ ?_ ?_ ?_ ?_ ?_ ?_ (by omega)
            ·rfl
            ·rfl
            ·exact hset_row (cs := dz0.toArray) (hset_alloc HR8.out)
            ·exact OwnShs.setRow (Q1.out.alloc _) (by omega) _
            ·exact owns_setRow (Q2.out.alloc _) (by omega) _
            ·exact owns_setRow (owns_le (own_built w8 38 7) (by omega)) (by omega) _
            ·exact bl
    ·skip
     go_simp
     refine hK.out _ _ (fun _ => hS.alloc _) ?_
     have hS5 := hS.alloc (.cells #[.int .i64 0, .int .i64 0, .bool false, .bool false, .int .i64 0] 34); clear hS; have hS := hS5; clear hS5
     clear hK K
     try simp only [Act.put, List.setIfInBounds_toArray, List.set_cons_zero, List.set_cons_succ]
     refine wpTill_op (i := 11) (by kernel_rfl) rfl (fun K hK => ?_)
     go_simp
     refine (specFieldAt_any a cap _ xs l.msg (u / 8) _ (HSs4.out.keep (show Below w4.heap.size w4 _ from by exact bl)) rfl hn hm).mono ?_
     rintro r w5 ⟨rfl, hb5⟩
     rw [← HF.out]
     have hb45 : Below w4.heap.size w4 w5 := by exact bl
     have hz45 := hb45.size
     refine hK.out _ _ (fun _ => hS.below hb5) ?_
     have hS5 := hS.below hb5; clear hS; have hS := hS5; clear hS5
     clear hK K
     try simp only [Act.put, List.setIfInBounds_toArray, List.set_cons_zero, List.set_cons_succ]
     refine tk (i := 12) hS ?_
     refine tk (i := 13) hS ?_
     refine tk (i := 14) hS ?_
     have hF5 := Lib.hid ((hb5.block w4.heap.size (by simp)).trans (hset_new (o := .cells #[.int .i64 0, .int .i64 0, .bool false, .bool false, .int .i64 0] 34) rfl))
     refine wpTill_op (i := 16) (by kernel_rfl) rfl (fun K hK => ?_)
     refine step_store_row rfl 34 (.tmp 11) (.tmp 57) rfl w4.heap.size #[.int .i64 f.number, .int .i64 f.kind, .bool f.rep, .bool f.packed, .int .i64 f.msg] rfl rfl 34 #[.int .i64 0, .int .i64 0, .bool false, .bool false, .int .i64 0] (hF5.out) (by kernel_rfl) rfl (by simp [Value.oneCell']) ?_
     have hS16 := hS.grown (only_rowT _ (w4.heap.size) #[.int .i64 f.number, .int .i64 f.kind, .bool f.rep, .bool f.packed, .int .i64 f.msg]) (by intro q hq; simp only [List.mem_cons, List.not_mem_nil, or_false] at hq; rcases hq with rfl | rfl | rfl <;> simp only [ne_eq, Option.some.injEq] <;> omega)
     refine hK.out _ _ (fun _ => hS16) ?_
     clear hK K hS
     try simp only [Act.put, List.setIfInBounds_toArray, List.set_cons_zero, List.set_cons_succ]
     refine wpTill_op (i := 17) (by kernel_rfl) rfl (fun K hK => ?_)
     go_simp
     refine hK.out _ _ (fun e => by cases e) ?_
     clear hK K
     try simp only [Act.put, List.setIfInBounds_toArray, List.set_cons_zero, List.set_cons_succ]
     refine wpTill_done (by kernel_rfl) ?_ _
     obtain ⟨w6, hw6⟩ : ∃ w6, w6 = w5.setRow w4.heap.size #[.int .i64 f.number, .int .i64 f.kind, .bool f.rep, .bool f.packed, .int .i64 f.msg] := ⟨_, rfl⟩
     obtain ⟨F, hF⟩ : ∃ F, F = w4.heap.size := ⟨_, rfl⟩
     have hF6 : w6.heap[F]? = some (.cells #[.int .i64 f.number, .int .i64 f.kind, .bool f.rep, .bool f.packed, .int .i64 f.msg] 34 (0, 0)) := by rw [hw6, hF]; exact hset_row (cs := #[.int .i64 0, .int .i64 0, .bool false, .bool false, .int .i64 0]) (hF5.out)
     have hb46 : Below w4.heap.size w4 w6 := by rw [hw6]; exact bl
     rw [← hw6, ← hF]
     have hF4 : w4.heap.size ≤ F := by rw [hF]; omega
     clear hw6 hF hb45
     have hz6 := hb46.size
     have HO6 := Lib.hid ((hb46.block _ (box_lt HO4.out)).trans HO4.out); clear HO4
     have HA6 := Lib.hid ((hb46.block _ (box_lt HA4.out)).trans HA4.out); clear HA4
     have HR6 := Lib.hid ((hb46.block _ (box_lt HR4.out)).trans HR4.out); clear HR4
     have Q1b := Lib.hid (Q1.out.chain hb46 (Nat.le_refl _)); clear Q1; have Q1 := Q1b; clear Q1b
     have Q2b := Lib.hid (owns_below Q2.out hb46 (Nat.le_refl _)); clear Q2; have Q2 := Q2b; clear Q2b
     have hbw6 : Below w.heap.size w w6 := hbw4.trans (hb46.mono (by omega))
     have c1_ := (hb46.cell (p := ⟨b, off + m * 2 + 1, none⟩) hlb).trans c1; clear c1 c0; have c1 := c1_; clear c1_
     have kF := box_cells hF6; have fF := box_frozen hF6; have hBF := box_lt hF6
     have HF6 := Lib.hid hF6; clear hF6
     have hlb6 : b < w6.heap.size := by omega
     clear hlb hb46
     have kO := box_cells HO6.out; have fO := box_frozen HO6.out; have hBO := box_lt HO6.out
     have kA := box_cells HA6.out; have fA := box_frozen HA6.out; have hBA := box_lt HA6.out
     rw [HML.out] at kA
     go_wp2_with fail
     refine (specWireOk_any (u % 8) _).mono ?_
     rintro r _ ⟨rfl, rfl⟩
     cases hwk : wireOk (u % 8)
     ·skip
      have HO2 := Lib.hid (tagO_wire (xs := xs) hok hnb hwk)
      go_wp2_with (first | ((with_reducible refine gl ?_); refine wlm w1.heap.size (c1111 (.slice a1 xs.length cap1) (.slice sa1 ls.length scap1) d.p d.mode 0 0 d.start d.at_ d.field d.wire d.want d.utf d.end_) (range_of_box (t := 40) HO6.out) ?_))
      refine (l15Fail_any (scan0 d) a1 cap1 xs.length sa1 scap1 ls.length 3 d.start _).mono ?_
      rintro r w7 ⟨ea, ecap, rfl, ho7, hb7⟩
      have hz7 := hb7.size
      have Q1b := Lib.hid (Q1.out.chain hb7 (Nat.le_refl _)); clear Q1
      have Q2b := Lib.hid (owns_below Q2.out hb7 (Nat.le_refl _)); clear Q2
      have Q3 := Lib.hid (owns_le ho7 (show w.heap.size + 1 + 1 ≤ _ by omega)); clear ho7
      have HR7 := Lib.hid ((hb7.block _ (by omega)).trans HR6.out); clear HR6
      have hbw7 : Below w.heap.size w w7 := hbw6.trans (hb7.mono (by omega))
      go_wp2_with (first | ((with_reducible refine gs ?_); refine wsr (w.heap.size + 1) (c1110 (.slice a1 xs.length cap1) (.slice sa1 ls.length scap1) d.p 9 0 0 d.start d.at_ d.field d.wire 0 d.utf 10 0 0 0 ⟨#[]⟩ 3 d.start).toArray HR7.out ?_))
      rw [HO2.out, failO]
      refine finDE (w := w) (R := w.heap.size + 1) (base := w.heap.size + 1 + 1) (e := failD (scan0 d) 3 d.start) (ms := ls) (es := [failE 3 d.start]) (rs := rs1) (a := a1) (cap := cap1) (sa := sa1) (scap := scap1) (ea := ea) (ecap := ecap) Tryz.results24 ?_ ?_ ?_ ?_ ?_ ?_ ?_ (by omega)
      ·rfl
      ·rfl
      ·exact hset_row (cs := dz0.toArray) HR7.out
      ·exact OwnShs.setRow Q1b.out (by omega) _
      ·exact owns_setRow Q2b.out (by omega) _
      ·exact owns_setRow Q3.out (by omega) _
      ·exact bl
     ·cases hkn : kn
      ·skip
       have hnk : ¬ (kn = true ∧ allowed f (u % 8) = false) := by rw [hkn]; simp
       by_cases hv0 : u % 8 = 0
       ·have g0 : (u % 8 == 0) = true := by simp; omega
        have hwd : widthOf (u % 8) = 0 := by rw [hv0]; rfl
        have hK : (3 : Int) = if u % 8 = 0 then 3 else if u % 8 = 2 then 4 else 5 := by rw [hv0]; rfl
        have HKk := Lib.hid hK; have HWD := Lib.hid hwd; clear hK hwd
        clear hv0
        by_cases ht : l.left < 1
        ·skip
         have HO2 := Lib.hid (tagO_end (k := 3) hok hnb hwk hlast HF.out hnk HKk.out (by rw [htl, HWD.out]; omega))
         go_wp2_with (first | ((with_reducible refine gl ?_); generalize hw8 : World.setCell _ (⟨w1.heap.size, 4, none⟩ : Addr) (.int .i64 3) = w8; have hO8 : w8.heap[w1.heap.size]? = some (.cells (c1111 (.slice a1 xs.length cap1) (.slice sa1 ls.length scap1) d.p 3 0 0 d.start d.at_ f (u % 8) d.want d.utf d.end_).toArray 40 (0, 0)) := (by rw [← hw8]; apply hset_eq; (repeat (first | (with_reducible exact HO6.out) | (with_reducible apply hset_set))); simp only [List.setIfInBounds_toArray, List.set_cons_zero, List.set_cons_succ]); have hG8 : w6.grownBy w8 (some w1.heap.size) := (by rw [← hw8]; (repeat (with_reducible refine only_cell ?_ _ _)); with_reducible exact only_refl _ _); clear hw8 kO fO hBO; have hz8 := hG8.size; have HA8 := Lib.hid ((hG8.block _ hBA (by simp; omega)).trans HA6.out); clear kA fA hBA; have kA := box_cells HA8.out; have fA := box_frozen HA8.out; have hBA := box_lt HA8.out; rw [HML.out] at kA; have Q1b := Lib.hid (Q1.out.keepBy hG8 (other_box HO6.out (by decide)) (other_box HO6.out (by decide))); clear Q1; have Q1 := Q1b; clear Q1b; have Q2b := Lib.hid (owns_keep Q2.out hG8 (other_box HO6.out (by decide))); clear Q2; have Q2 := Q2b; clear Q2b; have HR8 := Lib.hid ((hG8.block _ (by omega) (by simp; omega)).trans HR6.out); clear HR6; have hbw8 : Below w.heap.size w w8 := below_grown hbw6 hG8 (fun g e => by have := Option.some.inj e; omega) (by omega); have HO8 := Lib.hid hO8; clear hO8 hG8; refine wlm w1.heap.size (c1111 (.slice a1 xs.length cap1) (.slice sa1 ls.length scap1) d.p 3 0 0 d.start d.at_ f (u % 8) d.want d.utf d.end_) (range_of_box (t := 40) HO8.out) ?_))
         refine (l15Fail_any (tagK d f (u % 8) 3) a1 cap1 xs.length sa1 scap1 ls.length 9 d.at_ _).mono ?_
         rintro r w7 ⟨ea, ecap, rfl, ho7, hb7⟩
         have hz7 := hb7.size
         have Q1b := Lib.hid (Q1.out.chain hb7 (Nat.le_refl _)); clear Q1
         have Q2b := Lib.hid (owns_below Q2.out hb7 (Nat.le_refl _)); clear Q2
         have Q3 := Lib.hid (owns_le ho7 (show w.heap.size + 1 + 1 ≤ _ by omega)); clear ho7
         have HR7 := Lib.hid ((hb7.block _ (by omega)).trans HR8.out); clear HR8
         have hbw7 : Below w.heap.size w w7 := hbw8.trans (hb7.mono (by omega))
         go_wp2_with (first | ((with_reducible refine gs ?_); refine wsr (w.heap.size + 1) (c1110 (.slice a1 xs.length cap1) (.slice sa1 ls.length scap1) d.p 9 0 0 d.start d.at_ f (u % 8) 0 d.utf 10 0 0 0 ⟨#[]⟩ 9 d.at_).toArray HR7.out ?_))
         rw [HO2.out, failO]
         refine finDE (w := w) (R := w.heap.size + 1) (base := w.heap.size + 1 + 1) (e := failD (tagK d f (u % 8) 3) 9 d.at_) (ms := ls) (es := [failE 9 d.at_]) (rs := rs1) (a := a1) (cap := cap1) (sa := sa1) (scap := scap1) (ea := ea) (ecap := ecap) Tryz.results24 ?_ ?_ ?_ ?_ ?_ ?_ ?_ (by omega)
         ·rfl
         ·rfl
         ·exact hset_row (cs := dz0.toArray) HR7.out
         ·exact OwnShs.setRow Q1b.out (by omega) _
         ·exact owns_setRow Q2b.out (by omega) _
         ·exact owns_setRow Q3.out (by omega) _
         ·exact bl
        ·skip
         have HO2 := Lib.hid (tagO_ok (k := 3) hok hnb hwk hlast HF.out hnk HKk.out (by rw [htl, HWD.out]; omega))
         go_wp2_with (first | ((with_reducible refine gl ?_); generalize hw8 : World.setCell _ (⟨w1.heap.size, 4, none⟩ : Addr) (.int .i64 3) = w8; have hO8 : w8.heap[w1.heap.size]? = some (.cells (c1111 (.slice a1 xs.length cap1) (.slice sa1 ls.length scap1) d.p 3 0 0 d.start d.at_ f (u % 8) d.want d.utf d.end_).toArray 40 (0, 0)) := (by rw [← hw8]; apply hset_eq; (repeat (first | (with_reducible exact HO6.out) | (with_reducible apply hset_set))); simp only [List.setIfInBounds_toArray, List.set_cons_zero, List.set_cons_succ]); have hG8 : w6.grownBy w8 (some w1.heap.size) := (by rw [← hw8]; (repeat (with_reducible refine only_cell ?_ _ _)); with_reducible exact only_refl _ _); clear hw8 kO fO hBO; have hz8 := hG8.size; have HA8 := Lib.hid ((hG8.block _ hBA (by simp; omega)).trans HA6.out); clear kA fA hBA; have kA := box_cells HA8.out; have fA := box_frozen HA8.out; have hBA := box_lt HA8.out; rw [HML.out] at kA; have Q1b := Lib.hid (Q1.out.keepBy hG8 (other_box HO6.out (by decide)) (other_box HO6.out (by decide))); clear Q1; have Q1 := Q1b; clear Q1b; have Q2b := Lib.hid (owns_keep Q2.out hG8 (other_box HO6.out (by decide))); clear Q2; have Q2 := Q2b; clear Q2b; have HR8 := Lib.hid ((hG8.block _ (by omega) (by simp; omega)).trans HR6.out); clear HR6; have hbw8 : Below w.heap.size w w8 := below_grown hbw6 hG8 (fun g e => by have := Option.some.inj e; omega) (by omega); have HO8 := Lib.hid hO8; clear hO8 hG8; refine wlm w1.heap.size (c1111 (.slice a1 xs.length cap1) (.slice sa1 ls.length scap1) d.p 3 0 0 d.start d.at_ f (u % 8) d.want d.utf d.end_) (range_of_box (t := 40) HO8.out) ?_) | ((with_reducible refine gs ?_); refine wsr (w.heap.size + 1) (c1111 (.slice a1 xs.length cap1) (.slice sa1 ls.length scap1) d.p 3 0 0 d.start d.at_ f (u % 8) d.want d.utf d.end_).toArray (hset_alloc HR8.out) ?_))
         rw [HO2.out]
         refine finDE (w := w) (R := w.heap.size + 1) (base := w.heap.size + 1 + 1) (e := tagK d f (u % 8) 3) (ms := ls) (es := ([] : List Ev)) (rs := rs1) (a := a1) (cap := cap1) (sa := sa1) (scap := scap1) (ea := some ⟨w8.heap.size, 0, none⟩) (ecap := 0) Tryz.results24 ?_ ?_ ?_ ?_ ?_ ?_ ?_ (by omega)
         ·rfl
         ·rfl
         ·exact hset_row (cs := dz0.toArray) (hset_alloc HR8.out)
         ·exact OwnShs.setRow (Q1.out.alloc _) (by omega) _
         ·exact owns_setRow (Q2.out.alloc _) (by omega) _
         ·exact owns_setRow (owns_le (own_built w8 38 7) (by omega)) (by omega) _
         ·exact bl
       ·by_cases hv2 : u % 8 = 2
        ·have g0 : (u % 8 == 0) = false := by simp; omega
         have g2 : (u % 8 == 2) = true := by simp; omega
         have hwd : widthOf (u % 8) = 0 := by rw [hv2]; rfl
         have hK : (4 : Int) = if u % 8 = 0 then 3 else if u % 8 = 2 then 4 else 5 := by rw [hv2]; rfl
         have HKk := Lib.hid hK; have HWD := Lib.hid hwd; clear hK hwd
         clear hv2
         by_cases ht : l.left < 1
         ·skip
          have HO2 := Lib.hid (tagO_end (k := 4) hok hnb hwk hlast HF.out hnk HKk.out (by rw [htl, HWD.out]; omega))
          go_wp2_with (first | ((with_reducible refine gl ?_); generalize hw8 : World.setCell _ (⟨w1.heap.size, 4, none⟩ : Addr) (.int .i64 4) = w8; have hO8 : w8.heap[w1.heap.size]? = some (.cells (c1111 (.slice a1 xs.length cap1) (.slice sa1 ls.length scap1) d.p 4 0 0 d.start d.at_ f (u % 8) d.want d.utf d.end_).toArray 40 (0, 0)) := (by rw [← hw8]; apply hset_eq; (repeat (first | (with_reducible exact HO6.out) | (with_reducible apply hset_set))); simp only [List.setIfInBounds_toArray, List.set_cons_zero, List.set_cons_succ]); have hG8 : w6.grownBy w8 (some w1.heap.size) := (by rw [← hw8]; (repeat (with_reducible refine only_cell ?_ _ _)); with_reducible exact only_refl _ _); clear hw8 kO fO hBO; have hz8 := hG8.size; have HA8 := Lib.hid ((hG8.block _ hBA (by simp; omega)).trans HA6.out); clear kA fA hBA; have kA := box_cells HA8.out; have fA := box_frozen HA8.out; have hBA := box_lt HA8.out; rw [HML.out] at kA; have Q1b := Lib.hid (Q1.out.keepBy hG8 (other_box HO6.out (by decide)) (other_box HO6.out (by decide))); clear Q1; have Q1 := Q1b; clear Q1b; have Q2b := Lib.hid (owns_keep Q2.out hG8 (other_box HO6.out (by decide))); clear Q2; have Q2 := Q2b; clear Q2b; have HR8 := Lib.hid ((hG8.block _ (by omega) (by simp; omega)).trans HR6.out); clear HR6; have hbw8 : Below w.heap.size w w8 := below_grown hbw6 hG8 (fun g e => by have := Option.some.inj e; omega) (by omega); have HO8 := Lib.hid hO8; clear hO8 hG8; refine wlm w1.heap.size (c1111 (.slice a1 xs.length cap1) (.slice sa1 ls.length scap1) d.p 4 0 0 d.start d.at_ f (u % 8) d.want d.utf d.end_) (range_of_box (t := 40) HO8.out) ?_))
          refine (l15Fail_any (tagK d f (u % 8) 4) a1 cap1 xs.length sa1 scap1 ls.length 9 d.at_ _).mono ?_
          rintro r w7 ⟨ea, ecap, rfl, ho7, hb7⟩
          have hz7 := hb7.size
          have Q1b := Lib.hid (Q1.out.chain hb7 (Nat.le_refl _)); clear Q1
          have Q2b := Lib.hid (owns_below Q2.out hb7 (Nat.le_refl _)); clear Q2
          have Q3 := Lib.hid (owns_le ho7 (show w.heap.size + 1 + 1 ≤ _ by omega)); clear ho7
          have HR7 := Lib.hid ((hb7.block _ (by omega)).trans HR8.out); clear HR8
          have hbw7 : Below w.heap.size w w7 := hbw8.trans (hb7.mono (by omega))
          go_wp2_with (first | ((with_reducible refine gs ?_); refine wsr (w.heap.size + 1) (c1110 (.slice a1 xs.length cap1) (.slice sa1 ls.length scap1) d.p 9 0 0 d.start d.at_ f (u % 8) 0 d.utf 10 0 0 0 ⟨#[]⟩ 9 d.at_).toArray HR7.out ?_))
          rw [HO2.out, failO]
          refine finDE (w := w) (R := w.heap.size + 1) (base := w.heap.size + 1 + 1) (e := failD (tagK d f (u % 8) 4) 9 d.at_) (ms := ls) (es := [failE 9 d.at_]) (rs := rs1) (a := a1) (cap := cap1) (sa := sa1) (scap := scap1) (ea := ea) (ecap := ecap) Tryz.results24 ?_ ?_ ?_ ?_ ?_ ?_ ?_ (by omega)
          ·rfl
          ·rfl
          ·exact hset_row (cs := dz0.toArray) HR7.out
          ·exact OwnShs.setRow Q1b.out (by omega) _
          ·exact owns_setRow Q2b.out (by omega) _
          ·exact owns_setRow Q3.out (by omega) _
          ·exact bl
         ·skip
          have HO2 := Lib.hid (tagO_ok (k := 4) hok hnb hwk hlast HF.out hnk HKk.out (by rw [htl, HWD.out]; omega))
          go_wp2_with (first | ((with_reducible refine gl ?_); generalize hw8 : World.setCell _ (⟨w1.heap.size, 4, none⟩ : Addr) (.int .i64 4) = w8; have hO8 : w8.heap[w1.heap.size]? = some (.cells (c1111 (.slice a1 xs.length cap1) (.slice sa1 ls.length scap1) d.p 4 0 0 d.start d.at_ f (u % 8) d.want d.utf d.end_).toArray 40 (0, 0)) := (by rw [← hw8]; apply hset_eq; (repeat (first | (with_reducible exact HO6.out) | (with_reducible apply hset_set))); simp only [List.setIfInBounds_toArray, List.set_cons_zero, List.set_cons_succ]); have hG8 : w6.grownBy w8 (some w1.heap.size) := (by rw [← hw8]; (repeat (with_reducible refine only_cell ?_ _ _)); with_reducible exact only_refl _ _); clear hw8 kO fO hBO; have hz8 := hG8.size; have HA8 := Lib.hid ((hG8.block _ hBA (by simp; omega)).trans HA6.out); clear kA fA hBA; have kA := box_cells HA8.out; have fA := box_frozen HA8.out; have hBA := box_lt HA8.out; rw [HML.out] at kA; have Q1b := Lib.hid (Q1.out.keepBy hG8 (other_box HO6.out (by decide)) (other_box HO6.out (by decide))); clear Q1; have Q1 := Q1b; clear Q1b; have Q2b := Lib.hid (owns_keep Q2.out hG8 (other_box HO6.out (by decide))); clear Q2; have Q2 := Q2b; clear Q2b; have HR8 := Lib.hid ((hG8.block _ (by omega) (by simp; omega)).trans HR6.out); clear HR6; have hbw8 : Below w.heap.size w w8 := below_grown hbw6 hG8 (fun g e => by have := Option.some.inj e; omega) (by omega); have HO8 := Lib.hid hO8; clear hO8 hG8; refine wlm w1.heap.size (c1111 (.slice a1 xs.length cap1) (.slice sa1 ls.length scap1) d.p 4 0 0 d.start d.at_ f (u % 8) d.want d.utf d.end_) (range_of_box (t := 40) HO8.out) ?_) | ((with_reducible refine gs ?_); refine wsr (w.heap.size + 1) (c1111 (.slice a1 xs.length cap1) (.slice sa1 ls.length scap1) d.p 4 0 0 d.start d.at_ f (u % 8) d.want d.utf d.end_).toArray (hset_alloc HR8.out) ?_))
          rw [HO2.out]
          refine finDE (w := w) (R := w.heap.size + 1) (base := w.heap.size + 1 + 1) (e := tagK d f (u % 8) 4) (ms := ls) (es := ([] : List Ev)) (rs := rs1) (a := a1) (cap := cap1) (sa := sa1) (scap := scap1) (ea := some ⟨w8.heap.size, 0, none⟩) (ecap := 0) Tryz.results24 ?_ ?_ ?_ ?_ ?_ ?_ ?_ (by omega)
          ·rfl
          ·rfl
          ·exact hset_row (cs := dz0.toArray) (hset_alloc HR8.out)
          ·exact OwnShs.setRow (Q1.out.alloc _) (by omega) _
          ·exact owns_setRow (Q2.out.alloc _) (by omega) _
          ·exact owns_setRow (owns_le (own_built w8 38 7) (by omega)) (by omega) _
          ·exact bl
        ·have g0 : (u % 8 == 0) = false := by simp; omega
         have g2 : (u % 8 == 2) = false := by simp; omega
         by_cases hv1 : u % 8 = 1
         ·skip
          have hwd : widthOf (u % 8) = 8 := by rw [hv1]; rfl
          have hK : (5 : Int) = if u % 8 = 0 then 3 else if u % 8 = 2 then 4 else 5 := by rw [hv1]; rfl
          have HKk := Lib.hid hK; have HWD := Lib.hid hwd; clear hK hwd
          clear hv1
          by_cases ht : l.left < 8
          ·skip
           go_wp2_with fail
           refine (specWidthOf_any (u % 8) _).mono ?_
           rintro r _ ⟨rfl, rfl⟩
           rw [HWD.out]
           have HO2 := Lib.hid (tagO_end (k := 5) hok hnb hwk hlast HF.out hnk HKk.out (by rw [htl, HWD.out]; omega))
           go_wp2_with (first | ((with_reducible refine gl ?_); generalize hw8 : World.setCell _ (⟨w1.heap.size, 4, none⟩ : Addr) (.int .i64 5) = w8; have hO8 : w8.heap[w1.heap.size]? = some (.cells (c1111 (.slice a1 xs.length cap1) (.slice sa1 ls.length scap1) d.p 5 0 0 d.start d.at_ f (u % 8) d.want d.utf d.end_).toArray 40 (0, 0)) := (by rw [← hw8]; apply hset_eq; (repeat (first | (with_reducible exact HO6.out) | (with_reducible apply hset_set))); simp only [List.setIfInBounds_toArray, List.set_cons_zero, List.set_cons_succ]); have hG8 : w6.grownBy w8 (some w1.heap.size) := (by rw [← hw8]; (repeat (with_reducible refine only_cell ?_ _ _)); with_reducible exact only_refl _ _); clear hw8 kO fO hBO; have hz8 := hG8.size; have HA8 := Lib.hid ((hG8.block _ hBA (by simp; omega)).trans HA6.out); clear kA fA hBA; have kA := box_cells HA8.out; have fA := box_frozen HA8.out; have hBA := box_lt HA8.out; rw [HML.out] at kA; have Q1b := Lib.hid (Q1.out.keepBy hG8 (other_box HO6.out (by decide)) (other_box HO6.out (by decide))); clear Q1; have Q1 := Q1b; clear Q1b; have Q2b := Lib.hid (owns_keep Q2.out hG8 (other_box HO6.out (by decide))); clear Q2; have Q2 := Q2b; clear Q2b; have HR8 := Lib.hid ((hG8.block _ (by omega) (by simp; omega)).trans HR6.out); clear HR6; have hbw8 : Below w.heap.size w w8 := below_grown hbw6 hG8 (fun g e => by have := Option.some.inj e; omega) (by omega); have HO8 := Lib.hid hO8; clear hO8 hG8; refine wlm w1.heap.size (c1111 (.slice a1 xs.length cap1) (.slice sa1 ls.length scap1) d.p 5 0 0 d.start d.at_ f (u % 8) d.want d.utf d.end_) (range_of_box (t := 40) HO8.out) ?_))
           refine (l15Fail_any (tagK d f (u % 8) 5) a1 cap1 xs.length sa1 scap1 ls.length 9 d.at_ _).mono ?_
           rintro r w7 ⟨ea, ecap, rfl, ho7, hb7⟩
           have hz7 := hb7.size
           have Q1b := Lib.hid (Q1.out.chain hb7 (Nat.le_refl _)); clear Q1
           have Q2b := Lib.hid (owns_below Q2.out hb7 (Nat.le_refl _)); clear Q2
           have Q3 := Lib.hid (owns_le ho7 (show w.heap.size + 1 + 1 ≤ _ by omega)); clear ho7
           have HR7 := Lib.hid ((hb7.block _ (by omega)).trans HR8.out); clear HR8
           have hbw7 : Below w.heap.size w w7 := hbw8.trans (hb7.mono (by omega))
           go_wp2_with (first | ((with_reducible refine gs ?_); refine wsr (w.heap.size + 1) (c1110 (.slice a1 xs.length cap1) (.slice sa1 ls.length scap1) d.p 9 0 0 d.start d.at_ f (u % 8) 0 d.utf 10 0 0 0 ⟨#[]⟩ 9 d.at_).toArray HR7.out ?_))
           rw [HO2.out, failO]
           refine finDE (w := w) (R := w.heap.size + 1) (base := w.heap.size + 1 + 1) (e := failD (tagK d f (u % 8) 5) 9 d.at_) (ms := ls) (es := [failE 9 d.at_]) (rs := rs1) (a := a1) (cap := cap1) (sa := sa1) (scap := scap1) (ea := ea) (ecap := ecap) Tryz.results24 ?_ ?_ ?_ ?_ ?_ ?_ ?_ (by omega)
           ·rfl
           ·rfl
           ·exact hset_row (cs := dz0.toArray) HR7.out
           ·exact OwnShs.setRow Q1b.out (by omega) _
           ·exact owns_setRow Q2b.out (by omega) _
           ·exact owns_setRow Q3.out (by omega) _
           ·exact bl
          ·skip
           go_wp2_with fail
           refine (specWidthOf_any (u % 8) _).mono ?_
           rintro r _ ⟨rfl, rfl⟩
           rw [HWD.out]
           have HO2 := Lib.hid (tagO_ok (k := 5) hok hnb hwk hlast HF.out hnk HKk.out (by rw [htl, HWD.out]; omega))
           go_wp2_with (first | ((with_reducible refine gl ?_); generalize hw8 : World.setCell _ (⟨w1.heap.size, 4, none⟩ : Addr) (.int .i64 5) = w8; have hO8 : w8.heap[w1.heap.size]? = some (.cells (c1111 (.slice a1 xs.length cap1) (.slice sa1 ls.length scap1) d.p 5 0 0 d.start d.at_ f (u % 8) d.want d.utf d.end_).toArray 40 (0, 0)) := (by rw [← hw8]; apply hset_eq; (repeat (first | (with_reducible exact HO6.out) | (with_reducible apply hset_set))); simp only [List.setIfInBounds_toArray, List.set_cons_zero, List.set_cons_succ]); have hG8 : w6.grownBy w8 (some w1.heap.size) := (by rw [← hw8]; (repeat (with_reducible refine only_cell ?_ _ _)); with_reducible exact only_refl _ _); clear hw8 kO fO hBO; have hz8 := hG8.size; have HA8 := Lib.hid ((hG8.block _ hBA (by simp; omega)).trans HA6.out); clear kA fA hBA; have kA := box_cells HA8.out; have fA := box_frozen HA8.out; have hBA := box_lt HA8.out; rw [HML.out] at kA; have Q1b := Lib.hid (Q1.out.keepBy hG8 (other_box HO6.out (by decide)) (other_box HO6.out (by decide))); clear Q1; have Q1 := Q1b; clear Q1b; have Q2b := Lib.hid (owns_keep Q2.out hG8 (other_box HO6.out (by decide))); clear Q2; have Q2 := Q2b; clear Q2b; have HR8 := Lib.hid ((hG8.block _ (by omega) (by simp; omega)).trans HR6.out); clear HR6; have hbw8 : Below w.heap.size w w8 := below_grown hbw6 hG8 (fun g e => by have := Option.some.inj e; omega) (by omega); have HO8 := Lib.hid hO8; clear hO8 hG8; refine wlm w1.heap.size (c1111 (.slice a1 xs.length cap1) (.slice sa1 ls.length scap1) d.p 5 0 0 d.start d.at_ f (u % 8) d.want d.utf d.end_) (range_of_box (t := 40) HO8.out) ?_) | ((with_reducible refine gs ?_); refine wsr (w.heap.size + 1) (c1111 (.slice a1 xs.length cap1) (.slice sa1 ls.length scap1) d.p 5 0 0 d.start d.at_ f (u % 8) d.want d.utf d.end_).toArray (hset_alloc HR8.out) ?_))
           rw [HO2.out]
           refine finDE (w := w) (R := w.heap.size + 1) (base := w.heap.size + 1 + 1) (e := tagK d f (u % 8) 5) (ms := ls) (es := ([] : List Ev)) (rs := rs1) (a := a1) (cap := cap1) (sa := sa1) (scap := scap1) (ea := some ⟨w8.heap.size, 0, none⟩) (ecap := 0) Tryz.results24 ?_ ?_ ?_ ?_ ?_ ?_ ?_ (by omega)
           ·rfl
           ·rfl
           ·exact hset_row (cs := dz0.toArray) (hset_alloc HR8.out)
           ·exact OwnShs.setRow (Q1.out.alloc _) (by omega) _
           ·exact owns_setRow (Q2.out.alloc _) (by omega) _
           ·exact owns_setRow (owns_le (own_built w8 38 7) (by omega)) (by omega) _
           ·exact bl
         ·have hv5 : u % 8 = 5 := by simp only [wireOk, Bool.or_eq_true, beq_iff_eq] at hwk; omega
          have hwd : widthOf (u % 8) = 4 := by rw [hv5]; rfl
          have hK : (5 : Int) = if u % 8 = 0 then 3 else if u % 8 = 2 then 4 else 5 := by rw [hv5]; rfl
          have HKk := Lib.hid hK; have HWD := Lib.hid hwd; clear hK hwd
          clear hv5
          by_cases ht : l.left < 4
          ·skip
           go_wp2_with fail
           refine (specWidthOf_any (u % 8) _).mono ?_
           rintro r _ ⟨rfl, rfl⟩
           rw [HWD.out]
           have HO2 := Lib.hid (tagO_end (k := 5) hok hnb hwk hlast HF.out hnk HKk.out (by rw [htl, HWD.out]; omega))
           go_wp2_with (first | ((with_reducible refine gl ?_); generalize hw8 : World.setCell _ (⟨w1.heap.size, 4, none⟩ : Addr) (.int .i64 5) = w8; have hO8 : w8.heap[w1.heap.size]? = some (.cells (c1111 (.slice a1 xs.length cap1) (.slice sa1 ls.length scap1) d.p 5 0 0 d.start d.at_ f (u % 8) d.want d.utf d.end_).toArray 40 (0, 0)) := (by rw [← hw8]; apply hset_eq; (repeat (first | (with_reducible exact HO6.out) | (with_reducible apply hset_set))); simp only [List.setIfInBounds_toArray, List.set_cons_zero, List.set_cons_succ]); have hG8 : w6.grownBy w8 (some w1.heap.size) := (by rw [← hw8]; (repeat (with_reducible refine only_cell ?_ _ _)); with_reducible exact only_refl _ _); clear hw8 kO fO hBO; have hz8 := hG8.size; have HA8 := Lib.hid ((hG8.block _ hBA (by simp; omega)).trans HA6.out); clear kA fA hBA; have kA := box_cells HA8.out; have fA := box_frozen HA8.out; have hBA := box_lt HA8.out; rw [HML.out] at kA; have Q1b := Lib.hid (Q1.out.keepBy hG8 (other_box HO6.out (by decide)) (other_box HO6.out (by decide))); clear Q1; have Q1 := Q1b; clear Q1b; have Q2b := Lib.hid (owns_keep Q2.out hG8 (other_box HO6.out (by decide))); clear Q2; have Q2 := Q2b; clear Q2b; have HR8 := Lib.hid ((hG8.block _ (by omega) (by simp; omega)).trans HR6.out); clear HR6; have hbw8 : Below w.heap.size w w8 := below_grown hbw6 hG8 (fun g e => by have := Option.some.inj e; omega) (by omega); have HO8 := Lib.hid hO8; clear hO8 hG8; refine wlm w1.heap.size (c1111 (.slice a1 xs.length cap1) (.slice sa1 ls.length scap1) d.p 5 0 0 d.start d.at_ f (u % 8) d.want d.utf d.end_) (range_of_box (t := 40) HO8.out) ?_))
           refine (l15Fail_any (tagK d f (u % 8) 5) a1 cap1 xs.length sa1 scap1 ls.length 9 d.at_ _).mono ?_
           rintro r w7 ⟨ea, ecap, rfl, ho7, hb7⟩
           have hz7 := hb7.size
           have Q1b := Lib.hid (Q1.out.chain hb7 (Nat.le_refl _)); clear Q1
           have Q2b := Lib.hid (owns_below Q2.out hb7 (Nat.le_refl _)); clear Q2
           have Q3 := Lib.hid (owns_le ho7 (show w.heap.size + 1 + 1 ≤ _ by omega)); clear ho7
           have HR7 := Lib.hid ((hb7.block _ (by omega)).trans HR8.out); clear HR8
           have hbw7 : Below w.heap.size w w7 := hbw8.trans (hb7.mono (by omega))
           go_wp2_with (first | ((with_reducible refine gs ?_); refine wsr (w.heap.size + 1) (c1110 (.slice a1 xs.length cap1) (.slice sa1 ls.length scap1) d.p 9 0 0 d.start d.at_ f (u % 8) 0 d.utf 10 0 0 0 ⟨#[]⟩ 9 d.at_).toArray HR7.out ?_))
           rw [HO2.out, failO]
           refine finDE (w := w) (R := w.heap.size + 1) (base := w.heap.size + 1 + 1) (e := failD (tagK d f (u % 8) 5) 9 d.at_) (ms := ls) (es := [failE 9 d.at_]) (rs := rs1) (a := a1) (cap := cap1) (sa := sa1) (scap := scap1) (ea := ea) (ecap := ecap) Tryz.results24 ?_ ?_ ?_ ?_ ?_ ?_ ?_ (by omega)
           ·rfl
           ·rfl
           ·exact hset_row (cs := dz0.toArray) HR7.out
           ·exact OwnShs.setRow Q1b.out (by omega) _
           ·exact owns_setRow Q2b.out (by omega) _
           ·exact owns_setRow Q3.out (by omega) _
           ·exact bl
          ·skip
           go_wp2_with fail
           refine (specWidthOf_any (u % 8) _).mono ?_
           rintro r _ ⟨rfl, rfl⟩
           rw [HWD.out]
           have HO2 := Lib.hid (tagO_ok (k := 5) hok hnb hwk hlast HF.out hnk HKk.out (by rw [htl, HWD.out]; omega))
           go_wp2_with (first | ((with_reducible refine gl ?_); generalize hw8 : World.setCell _ (⟨w1.heap.size, 4, none⟩ : Addr) (.int .i64 5) = w8; have hO8 : w8.heap[w1.heap.size]? = some (.cells (c1111 (.slice a1 xs.length cap1) (.slice sa1 ls.length scap1) d.p 5 0 0 d.start d.at_ f (u % 8) d.want d.utf d.end_).toArray 40 (0, 0)) := (by rw [← hw8]; apply hset_eq; (repeat (first | (with_reducible exact HO6.out) | (with_reducible apply hset_set))); simp only [List.setIfInBounds_toArray, List.set_cons_zero, List.set_cons_succ]); have hG8 : w6.grownBy w8 (some w1.heap.size) := (by rw [← hw8]; (repeat (with_reducible refine only_cell ?_ _ _)); with_reducible exact only_refl _ _); clear hw8 kO fO hBO; have hz8 := hG8.size; have HA8 := Lib.hid ((hG8.block _ hBA (by simp; omega)).trans HA6.out); clear kA fA hBA; have kA := box_cells HA8.out; have fA := box_frozen HA8.out; have hBA := box_lt HA8.out; rw [HML.out] at kA; have Q1b := Lib.hid (Q1.out.keepBy hG8 (other_box HO6.out (by decide)) (other_box HO6.out (by decide))); clear Q1; have Q1 := Q1b; clear Q1b; have Q2b := Lib.hid (owns_keep Q2.out hG8 (other_box HO6.out (by decide))); clear Q2; have Q2 := Q2b; clear Q2b; have HR8 := Lib.hid ((hG8.block _ (by omega) (by simp; omega)).trans HR6.out); clear HR6; have hbw8 : Below w.heap.size w w8 := below_grown hbw6 hG8 (fun g e => by have := Option.some.inj e; omega) (by omega); have HO8 := Lib.hid hO8; clear hO8 hG8; refine wlm w1.heap.size (c1111 (.slice a1 xs.length cap1) (.slice sa1 ls.length scap1) d.p 5 0 0 d.start d.at_ f (u % 8) d.want d.utf d.end_) (range_of_box (t := 40) HO8.out) ?_) | ((with_reducible refine gs ?_); refine wsr (w.heap.size + 1) (c1111 (.slice a1 xs.length cap1) (.slice sa1 ls.length scap1) d.p 5 0 0 d.start d.at_ f (u % 8) d.want d.utf d.end_).toArray (hset_alloc HR8.out) ?_))
           rw [HO2.out]
           refine finDE (w := w) (R := w.heap.size + 1) (base := w.heap.size + 1 + 1) (e := tagK d f (u % 8) 5) (ms := ls) (es := ([] : List Ev)) (rs := rs1) (a := a1) (cap := cap1) (sa := sa1) (scap := scap1) (ea := some ⟨w8.heap.size, 0, none⟩) (ecap := 0) Tryz.results24 ?_ ?_ ?_ ?_ ?_ ?_ ?_ (by omega)
           ·rfl
           ·rfl
           ·exact hset_row (cs := dz0.toArray) (hset_alloc HR8.out)
           ·exact OwnShs.setRow (Q1.out.alloc _) (by omega) _
           ·exact owns_setRow (Q2.out.alloc _) (by omega) _
           ·exact owns_setRow (owns_le (own_built w8 38 7) (by omega)) (by omega) _
           ·exact bl
      ·go_wp2_with fail
       refine (specAllowed_any f (u % 8) _ hwk).mono ?_
       rintro r w9 ⟨rfl, hb9⟩
       have hz9 := hb9.size
       have HO9 := Lib.hid ((hb9.block _ (box_lt HO6.out)).trans HO6.out); clear HO6
       have HA9 := Lib.hid ((hb9.block _ (box_lt HA6.out)).trans HA6.out); clear HA6
       have HR9 := Lib.hid ((hb9.block _ (box_lt HR6.out)).trans HR6.out); clear HR6
       have Q1b := Lib.hid (Q1.out.chain hb9 (Nat.le_refl _)); clear Q1; have Q1 := Q1b; clear Q1b
       have Q2b := Lib.hid (owns_below Q2.out hb9 (Nat.le_refl _)); clear Q2; have Q2 := Q2b; clear Q2b
       have hbw9 : Below w.heap.size w w9 := hbw6.trans (hb9.mono (by omega))
       have c1_ := (hb9.cell (p := ⟨b, off + m * 2 + 1, none⟩) hlb6).trans c1; clear c1; have c1 := c1_; clear c1_
       have hF9 := (hb9.block _ hBF).trans HF6.out
       clear kF fF hBF HF6 kO fO hBO kA fA hBA
       have kF := box_cells hF9; have fF := box_frozen hF9; have hBF := box_lt hF9; clear hF9 hb9
       have kO := box_cells HO9.out; have fO := box_frozen HO9.out; have hBO := box_lt HO9.out
       have kA := box_cells HA9.out; have fA := box_frozen HA9.out; have hBA := box_lt HA9.out
       rw [HML.out] at kA
       cases ha : allowed f (u % 8)
       ·skip
        have HO2 := Lib.hid (tagO_kind (xs := xs) hok hnb hwk hlast HF.out hkn ha)
        go_wp2_with (first | ((with_reducible refine gl ?_); refine wlm w1.heap.size (c1111 (.slice a1 xs.length cap1) (.slice sa1 ls.length scap1) d.p d.mode 0 0 d.start d.at_ d.field d.wire d.want d.utf d.end_) (range_of_box (t := 40) HO9.out) ?_))
        refine (l15Fail_any (scan0 d) a1 cap1 xs.length sa1 scap1 ls.length 4 d.start _).mono ?_
        rintro r w7 ⟨ea, ecap, rfl, ho7, hb7⟩
        have hz7 := hb7.size
        have Q1b := Lib.hid (Q1.out.chain hb7 (Nat.le_refl _)); clear Q1
        have Q2b := Lib.hid (owns_below Q2.out hb7 (Nat.le_refl _)); clear Q2
        have Q3 := Lib.hid (owns_le ho7 (show w.heap.size + 1 + 1 ≤ _ by omega)); clear ho7
        have HR7 := Lib.hid ((hb7.block _ (by omega)).trans HR9.out); clear HR9
        have hbw7 : Below w.heap.size w w7 := hbw9.trans (hb7.mono (by omega))
        go_wp2_with (first | ((with_reducible refine gs ?_); refine wsr (w.heap.size + 1) (c1110 (.slice a1 xs.length cap1) (.slice sa1 ls.length scap1) d.p 9 0 0 d.start d.at_ d.field d.wire 0 d.utf 10 0 0 0 ⟨#[]⟩ 4 d.start).toArray HR7.out ?_))
        rw [HO2.out, failO]
        refine finDE (w := w) (R := w.heap.size + 1) (base := w.heap.size + 1 + 1) (e := failD (scan0 d) 4 d.start) (ms := ls) (es := [failE 4 d.start]) (rs := rs1) (a := a1) (cap := cap1) (sa := sa1) (scap := scap1) (ea := ea) (ecap := ecap) Tryz.results24 ?_ ?_ ?_ ?_ ?_ ?_ ?_ (by omega)
        ·rfl
        ·rfl
        ·exact hset_row (cs := dz0.toArray) HR7.out
        ·exact OwnShs.setRow Q1b.out (by omega) _
        ·exact owns_setRow Q2b.out (by omega) _
        ·exact owns_setRow Q3.out (by omega) _
        ·exact bl
       ·skip
        have hnk : ¬ (kn = true ∧ allowed f (u % 8) = false) := by rw [hkn]; simp [ha]
        by_cases hv0 : u % 8 = 0
        ·have g0 : (u % 8 == 0) = true := by simp; omega
         have hwd : widthOf (u % 8) = 0 := by rw [hv0]; rfl
         have hK : (3 : Int) = if u % 8 = 0 then 3 else if u % 8 = 2 then 4 else 5 := by rw [hv0]; rfl
         have HKk := Lib.hid hK; have HWD := Lib.hid hwd; clear hK hwd
         clear hv0
         by_cases ht : l.left < 1
         ·skip
          have HO2 := Lib.hid (tagO_end (k := 3) hok hnb hwk hlast HF.out hnk HKk.out (by rw [htl, HWD.out]; omega))
          go_wp2_with (first | ((with_reducible refine gl ?_); generalize hw8 : World.setCell _ (⟨w1.heap.size, 4, none⟩ : Addr) (.int .i64 3) = w8; have hO8 : w8.heap[w1.heap.size]? = some (.cells (c1111 (.slice a1 xs.length cap1) (.slice sa1 ls.length scap1) d.p 3 0 0 d.start d.at_ f (u % 8) d.want d.utf d.end_).toArray 40 (0, 0)) := (by rw [← hw8]; apply hset_eq; (repeat (first | (with_reducible exact HO9.out) | (with_reducible apply hset_set))); simp only [List.setIfInBounds_toArray, List.set_cons_zero, List.set_cons_succ]); have hG8 : w9.grownBy w8 (some w1.heap.size) := (by rw [← hw8]; (repeat (with_reducible refine only_cell ?_ _ _)); with_reducible exact only_refl _ _); clear hw8 kO fO hBO; have hz8 := hG8.size; have HA8 := Lib.hid ((hG8.block _ hBA (by simp; omega)).trans HA9.out); clear kA fA hBA; have kA := box_cells HA8.out; have fA := box_frozen HA8.out; have hBA := box_lt HA8.out; rw [HML.out] at kA; have Q1b := Lib.hid (Q1.out.keepBy hG8 (other_box HO9.out (by decide)) (other_box HO9.out (by decide))); clear Q1; have Q1 := Q1b; clear Q1b; have Q2b := Lib.hid (owns_keep Q2.out hG8 (other_box HO9.out (by decide))); clear Q2; have Q2 := Q2b; clear Q2b; have HR8 := Lib.hid ((hG8.block _ (by omega) (by simp; omega)).trans HR9.out); clear HR9; have hbw8 : Below w.heap.size w w8 := below_grown hbw9 hG8 (fun g e => by have := Option.some.inj e; omega) (by omega); have HO8 := Lib.hid hO8; clear hO8 hG8; refine wlm w1.heap.size (c1111 (.slice a1 xs.length cap1) (.slice sa1 ls.length scap1) d.p 3 0 0 d.start d.at_ f (u % 8) d.want d.utf d.end_) (range_of_box (t := 40) HO8.out) ?_))
          refine (l15Fail_any (tagK d f (u % 8) 3) a1 cap1 xs.length sa1 scap1 ls.length 9 d.at_ _).mono ?_
          rintro r w7 ⟨ea, ecap, rfl, ho7, hb7⟩
          have hz7 := hb7.size
          have Q1b := Lib.hid (Q1.out.chain hb7 (Nat.le_refl _)); clear Q1
          have Q2b := Lib.hid (owns_below Q2.out hb7 (Nat.le_refl _)); clear Q2
          have Q3 := Lib.hid (owns_le ho7 (show w.heap.size + 1 + 1 ≤ _ by omega)); clear ho7
          have HR7 := Lib.hid ((hb7.block _ (by omega)).trans HR8.out); clear HR8
          have hbw7 : Below w.heap.size w w7 := hbw8.trans (hb7.mono (by omega))
          go_wp2_with (first | ((with_reducible refine gs ?_); refine wsr (w.heap.size + 1) (c1110 (.slice a1 xs.length cap1) (.slice sa1 ls.length scap1) d.p 9 0 0 d.start d.at_ f (u % 8) 0 d.utf 10 0 0 0 ⟨#[]⟩ 9 d.at_).toArray HR7.out ?_))
          rw [HO2.out, failO]
          refine finDE (w := w) (R := w.heap.size + 1) (base := w.heap.size + 1 + 1) (e := failD (tagK d f (u % 8) 3) 9 d.at_) (ms := ls) (es := [failE 9 d.at_]) (rs := rs1) (a := a1) (cap := cap1) (sa := sa1) (scap := scap1) (ea := ea) (ecap := ecap) Tryz.results24 ?_ ?_ ?_ ?_ ?_ ?_ ?_ (by omega)
          ·rfl
          ·rfl
          ·exact hset_row (cs := dz0.toArray) HR7.out
          ·exact OwnShs.setRow Q1b.out (by omega) _
          ·exact owns_setRow Q2b.out (by omega) _
          ·exact owns_setRow Q3.out (by omega) _
          ·exact bl
         ·skip
          have HO2 := Lib.hid (tagO_ok (k := 3) hok hnb hwk hlast HF.out hnk HKk.out (by rw [htl, HWD.out]; omega))
          go_wp2_with (first | ((with_reducible refine gl ?_); generalize hw8 : World.setCell _ (⟨w1.heap.size, 4, none⟩ : Addr) (.int .i64 3) = w8; have hO8 : w8.heap[w1.heap.size]? = some (.cells (c1111 (.slice a1 xs.length cap1) (.slice sa1 ls.length scap1) d.p 3 0 0 d.start d.at_ f (u % 8) d.want d.utf d.end_).toArray 40 (0, 0)) := (by rw [← hw8]; apply hset_eq; (repeat (first | (with_reducible exact HO9.out) | (with_reducible apply hset_set))); simp only [List.setIfInBounds_toArray, List.set_cons_zero, List.set_cons_succ]); have hG8 : w9.grownBy w8 (some w1.heap.size) := (by rw [← hw8]; (repeat (with_reducible refine only_cell ?_ _ _)); with_reducible exact only_refl _ _); clear hw8 kO fO hBO; have hz8 := hG8.size; have HA8 := Lib.hid ((hG8.block _ hBA (by simp; omega)).trans HA9.out); clear kA fA hBA; have kA := box_cells HA8.out; have fA := box_frozen HA8.out; have hBA := box_lt HA8.out; rw [HML.out] at kA; have Q1b := Lib.hid (Q1.out.keepBy hG8 (other_box HO9.out (by decide)) (other_box HO9.out (by decide))); clear Q1; have Q1 := Q1b; clear Q1b; have Q2b := Lib.hid (owns_keep Q2.out hG8 (other_box HO9.out (by decide))); clear Q2; have Q2 := Q2b; clear Q2b; have HR8 := Lib.hid ((hG8.block _ (by omega) (by simp; omega)).trans HR9.out); clear HR9; have hbw8 : Below w.heap.size w w8 := below_grown hbw9 hG8 (fun g e => by have := Option.some.inj e; omega) (by omega); have HO8 := Lib.hid hO8; clear hO8 hG8; refine wlm w1.heap.size (c1111 (.slice a1 xs.length cap1) (.slice sa1 ls.length scap1) d.p 3 0 0 d.start d.at_ f (u % 8) d.want d.utf d.end_) (range_of_box (t := 40) HO8.out) ?_) | ((with_reducible refine gs ?_); refine wsr (w.heap.size + 1) (c1111 (.slice a1 xs.length cap1) (.slice sa1 ls.length scap1) d.p 3 0 0 d.start d.at_ f (u % 8) d.want d.utf d.end_).toArray (hset_alloc HR8.out) ?_))
          rw [HO2.out]
          refine finDE (w := w) (R := w.heap.size + 1) (base := w.heap.size + 1 + 1) (e := tagK d f (u % 8) 3) (ms := ls) (es := ([] : List Ev)) (rs := rs1) (a := a1) (cap := cap1) (sa := sa1) (scap := scap1) (ea := some ⟨w8.heap.size, 0, none⟩) (ecap := 0) Tryz.results24 ?_ ?_ ?_ ?_ ?_ ?_ ?_ (by omega)
          ·rfl
          ·rfl
          ·exact hset_row (cs := dz0.toArray) (hset_alloc HR8.out)
          ·exact OwnShs.setRow (Q1.out.alloc _) (by omega) _
          ·exact owns_setRow (Q2.out.alloc _) (by omega) _
          ·exact owns_setRow (owns_le (own_built w8 38 7) (by omega)) (by omega) _
          ·exact bl
        ·by_cases hv2 : u % 8 = 2
         ·have g0 : (u % 8 == 0) = false := by simp; omega
          have g2 : (u % 8 == 2) = true := by simp; omega
          have hwd : widthOf (u % 8) = 0 := by rw [hv2]; rfl
          have hK : (4 : Int) = if u % 8 = 0 then 3 else if u % 8 = 2 then 4 else 5 := by rw [hv2]; rfl
          have HKk := Lib.hid hK; have HWD := Lib.hid hwd; clear hK hwd
          clear hv2
          by_cases ht : l.left < 1
          ·skip
           have HO2 := Lib.hid (tagO_end (k := 4) hok hnb hwk hlast HF.out hnk HKk.out (by rw [htl, HWD.out]; omega))
           go_wp2_with (first | ((with_reducible refine gl ?_); generalize hw8 : World.setCell _ (⟨w1.heap.size, 4, none⟩ : Addr) (.int .i64 4) = w8; have hO8 : w8.heap[w1.heap.size]? = some (.cells (c1111 (.slice a1 xs.length cap1) (.slice sa1 ls.length scap1) d.p 4 0 0 d.start d.at_ f (u % 8) d.want d.utf d.end_).toArray 40 (0, 0)) := (by rw [← hw8]; apply hset_eq; (repeat (first | (with_reducible exact HO9.out) | (with_reducible apply hset_set))); simp only [List.setIfInBounds_toArray, List.set_cons_zero, List.set_cons_succ]); have hG8 : w9.grownBy w8 (some w1.heap.size) := (by rw [← hw8]; (repeat (with_reducible refine only_cell ?_ _ _)); with_reducible exact only_refl _ _); clear hw8 kO fO hBO; have hz8 := hG8.size; have HA8 := Lib.hid ((hG8.block _ hBA (by simp; omega)).trans HA9.out); clear kA fA hBA; have kA := box_cells HA8.out; have fA := box_frozen HA8.out; have hBA := box_lt HA8.out; rw [HML.out] at kA; have Q1b := Lib.hid (Q1.out.keepBy hG8 (other_box HO9.out (by decide)) (other_box HO9.out (by decide))); clear Q1; have Q1 := Q1b; clear Q1b; have Q2b := Lib.hid (owns_keep Q2.out hG8 (other_box HO9.out (by decide))); clear Q2; have Q2 := Q2b; clear Q2b; have HR8 := Lib.hid ((hG8.block _ (by omega) (by simp; omega)).trans HR9.out); clear HR9; have hbw8 : Below w.heap.size w w8 := below_grown hbw9 hG8 (fun g e => by have := Option.some.inj e; omega) (by omega); have HO8 := Lib.hid hO8; clear hO8 hG8; refine wlm w1.heap.size (c1111 (.slice a1 xs.length cap1) (.slice sa1 ls.length scap1) d.p 4 0 0 d.start d.at_ f (u % 8) d.want d.utf d.end_) (range_of_box (t := 40) HO8.out) ?_))
           refine (l15Fail_any (tagK d f (u % 8) 4) a1 cap1 xs.length sa1 scap1 ls.length 9 d.at_ _).mono ?_
           rintro r w7 ⟨ea, ecap, rfl, ho7, hb7⟩
           have hz7 := hb7.size
           have Q1b := Lib.hid (Q1.out.chain hb7 (Nat.le_refl _)); clear Q1
           have Q2b := Lib.hid (owns_below Q2.out hb7 (Nat.le_refl _)); clear Q2
           have Q3 := Lib.hid (owns_le ho7 (show w.heap.size + 1 + 1 ≤ _ by omega)); clear ho7
           have HR7 := Lib.hid ((hb7.block _ (by omega)).trans HR8.out); clear HR8
           have hbw7 : Below w.heap.size w w7 := hbw8.trans (hb7.mono (by omega))
           go_wp2_with (first | ((with_reducible refine gs ?_); refine wsr (w.heap.size + 1) (c1110 (.slice a1 xs.length cap1) (.slice sa1 ls.length scap1) d.p 9 0 0 d.start d.at_ f (u % 8) 0 d.utf 10 0 0 0 ⟨#[]⟩ 9 d.at_).toArray HR7.out ?_))
           rw [HO2.out, failO]
           refine finDE (w := w) (R := w.heap.size + 1) (base := w.heap.size + 1 + 1) (e := failD (tagK d f (u % 8) 4) 9 d.at_) (ms := ls) (es := [failE 9 d.at_]) (rs := rs1) (a := a1) (cap := cap1) (sa := sa1) (scap := scap1) (ea := ea) (ecap := ecap) Tryz.results24 ?_ ?_ ?_ ?_ ?_ ?_ ?_ (by omega)
           ·rfl
           ·rfl
           ·exact hset_row (cs := dz0.toArray) HR7.out
           ·exact OwnShs.setRow Q1b.out (by omega) _
           ·exact owns_setRow Q2b.out (by omega) _
           ·exact owns_setRow Q3.out (by omega) _
           ·exact bl
          ·skip
           have HO2 := Lib.hid (tagO_ok (k := 4) hok hnb hwk hlast HF.out hnk HKk.out (by rw [htl, HWD.out]; omega))
           go_wp2_with (first | ((with_reducible refine gl ?_); generalize hw8 : World.setCell _ (⟨w1.heap.size, 4, none⟩ : Addr) (.int .i64 4) = w8; have hO8 : w8.heap[w1.heap.size]? = some (.cells (c1111 (.slice a1 xs.length cap1) (.slice sa1 ls.length scap1) d.p 4 0 0 d.start d.at_ f (u % 8) d.want d.utf d.end_).toArray 40 (0, 0)) := (by rw [← hw8]; apply hset_eq; (repeat (first | (with_reducible exact HO9.out) | (with_reducible apply hset_set))); simp only [List.setIfInBounds_toArray, List.set_cons_zero, List.set_cons_succ]); have hG8 : w9.grownBy w8 (some w1.heap.size) := (by rw [← hw8]; (repeat (with_reducible refine only_cell ?_ _ _)); with_reducible exact only_refl _ _); clear hw8 kO fO hBO; have hz8 := hG8.size; have HA8 := Lib.hid ((hG8.block _ hBA (by simp; omega)).trans HA9.out); clear kA fA hBA; have kA := box_cells HA8.out; have fA := box_frozen HA8.out; have hBA := box_lt HA8.out; rw [HML.out] at kA; have Q1b := Lib.hid (Q1.out.keepBy hG8 (other_box HO9.out (by decide)) (other_box HO9.out (by decide))); clear Q1; have Q1 := Q1b; clear Q1b; have Q2b := Lib.hid (owns_keep Q2.out hG8 (other_box HO9.out (by decide))); clear Q2; have Q2 := Q2b; clear Q2b; have HR8 := Lib.hid ((hG8.block _ (by omega) (by simp; omega)).trans HR9.out); clear HR9; have hbw8 : Below w.heap.size w w8 := below_grown hbw9 hG8 (fun g e => by have := Option.some.inj e; omega) (by omega); have HO8 := Lib.hid hO8; clear hO8 hG8; refine wlm w1.heap.size (c1111 (.slice a1 xs.length cap1) (.slice sa1 ls.length scap1) d.p 4 0 0 d.start d.at_ f (u % 8) d.want d.utf d.end_) (range_of_box (t := 40) HO8.out) ?_) | ((with_reducible refine gs ?_); refine wsr (w.heap.size + 1) (c1111 (.slice a1 xs.length cap1) (.slice sa1 ls.length scap1) d.p 4 0 0 d.start d.at_ f (u % 8) d.want d.utf d.end_).toArray (hset_alloc HR8.out) ?_))
           rw [HO2.out]
           refine finDE (w := w) (R := w.heap.size + 1) (base := w.heap.size + 1 + 1) (e := tagK d f (u % 8) 4) (ms := ls) (es := ([] : List Ev)) (rs := rs1) (a := a1) (cap := cap1) (sa := sa1) (scap := scap1) (ea := some ⟨w8.heap.size, 0, none⟩) (ecap := 0) Tryz.results24 ?_ ?_ ?_ ?_ ?_ ?_ ?_ (by omega)
           ·rfl
           ·rfl
           ·exact hset_row (cs := dz0.toArray) (hset_alloc HR8.out)
           ·exact OwnShs.setRow (Q1.out.alloc _) (by omega) _
           ·exact owns_setRow (Q2.out.alloc _) (by omega) _
           ·exact owns_setRow (owns_le (own_built w8 38 7) (by omega)) (by omega) _
           ·exact bl
         ·have g0 : (u % 8 == 0) = false := by simp; omega
          have g2 : (u % 8 == 2) = false := by simp; omega
          by_cases hv1 : u % 8 = 1
          ·skip
           have hwd : widthOf (u % 8) = 8 := by rw [hv1]; rfl
           have hK : (5 : Int) = if u % 8 = 0 then 3 else if u % 8 = 2 then 4 else 5 := by rw [hv1]; rfl
           have HKk := Lib.hid hK; have HWD := Lib.hid hwd; clear hK hwd
           clear hv1
           by_cases ht : l.left < 8
           ·skip
            go_wp2_with fail
            refine (specWidthOf_any (u % 8) _).mono ?_
            rintro r _ ⟨rfl, rfl⟩
            rw [HWD.out]
            have HO2 := Lib.hid (tagO_end (k := 5) hok hnb hwk hlast HF.out hnk HKk.out (by rw [htl, HWD.out]; omega))
            go_wp2_with (first | ((with_reducible refine gl ?_); generalize hw8 : World.setCell _ (⟨w1.heap.size, 4, none⟩ : Addr) (.int .i64 5) = w8; have hO8 : w8.heap[w1.heap.size]? = some (.cells (c1111 (.slice a1 xs.length cap1) (.slice sa1 ls.length scap1) d.p 5 0 0 d.start d.at_ f (u % 8) d.want d.utf d.end_).toArray 40 (0, 0)) := (by rw [← hw8]; apply hset_eq; (repeat (first | (with_reducible exact HO9.out) | (with_reducible apply hset_set))); simp only [List.setIfInBounds_toArray, List.set_cons_zero, List.set_cons_succ]); have hG8 : w9.grownBy w8 (some w1.heap.size) := (by rw [← hw8]; (repeat (with_reducible refine only_cell ?_ _ _)); with_reducible exact only_refl _ _); clear hw8 kO fO hBO; have hz8 := hG8.size; have HA8 := Lib.hid ((hG8.block _ hBA (by simp; omega)).trans HA9.out); clear kA fA hBA; have kA := box_cells HA8.out; have fA := box_frozen HA8.out; have hBA := box_lt HA8.out; rw [HML.out] at kA; have Q1b := Lib.hid (Q1.out.keepBy hG8 (other_box HO9.out (by decide)) (other_box HO9.out (by decide))); clear Q1; have Q1 := Q1b; clear Q1b; have Q2b := Lib.hid (owns_keep Q2.out hG8 (other_box HO9.out (by decide))); clear Q2; have Q2 := Q2b; clear Q2b; have HR8 := Lib.hid ((hG8.block _ (by omega) (by simp; omega)).trans HR9.out); clear HR9; have hbw8 : Below w.heap.size w w8 := below_grown hbw9 hG8 (fun g e => by have := Option.some.inj e; omega) (by omega); have HO8 := Lib.hid hO8; clear hO8 hG8; refine wlm w1.heap.size (c1111 (.slice a1 xs.length cap1) (.slice sa1 ls.length scap1) d.p 5 0 0 d.start d.at_ f (u % 8) d.want d.utf d.end_) (range_of_box (t := 40) HO8.out) ?_))
            refine (l15Fail_any (tagK d f (u % 8) 5) a1 cap1 xs.length sa1 scap1 ls.length 9 d.at_ _).mono ?_
            rintro r w7 ⟨ea, ecap, rfl, ho7, hb7⟩
            have hz7 := hb7.size
            have Q1b := Lib.hid (Q1.out.chain hb7 (Nat.le_refl _)); clear Q1
            have Q2b := Lib.hid (owns_below Q2.out hb7 (Nat.le_refl _)); clear Q2
            have Q3 := Lib.hid (owns_le ho7 (show w.heap.size + 1 + 1 ≤ _ by omega)); clear ho7
            have HR7 := Lib.hid ((hb7.block _ (by omega)).trans HR8.out); clear HR8
            have hbw7 : Below w.heap.size w w7 := hbw8.trans (hb7.mono (by omega))
            go_wp2_with (first | ((with_reducible refine gs ?_); refine wsr (w.heap.size + 1) (c1110 (.slice a1 xs.length cap1) (.slice sa1 ls.length scap1) d.p 9 0 0 d.start d.at_ f (u % 8) 0 d.utf 10 0 0 0 ⟨#[]⟩ 9 d.at_).toArray HR7.out ?_))
            rw [HO2.out, failO]
            refine finDE (w := w) (R := w.heap.size + 1) (base := w.heap.size + 1 + 1) (e := failD (tagK d f (u % 8) 5) 9 d.at_) (ms := ls) (es := [failE 9 d.at_]) (rs := rs1) (a := a1) (cap := cap1) (sa := sa1) (scap := scap1) (ea := ea) (ecap := ecap) Tryz.results24 ?_ ?_ ?_ ?_ ?_ ?_ ?_ (by omega)
            ·rfl
            ·rfl
            ·exact hset_row (cs := dz0.toArray) HR7.out
            ·exact OwnShs.setRow Q1b.out (by omega) _
            ·exact owns_setRow Q2b.out (by omega) _
            ·exact owns_setRow Q3.out (by omega) _
            ·exact bl
           ·skip
            go_wp2_with fail
            refine (specWidthOf_any (u % 8) _).mono ?_
            rintro r _ ⟨rfl, rfl⟩
            rw [HWD.out]
            have HO2 := Lib.hid (tagO_ok (k := 5) hok hnb hwk hlast HF.out hnk HKk.out (by rw [htl, HWD.out]; omega))
            go_wp2_with (first | ((with_reducible refine gl ?_); generalize hw8 : World.setCell _ (⟨w1.heap.size, 4, none⟩ : Addr) (.int .i64 5) = w8; have hO8 : w8.heap[w1.heap.size]? = some (.cells (c1111 (.slice a1 xs.length cap1) (.slice sa1 ls.length scap1) d.p 5 0 0 d.start d.at_ f (u % 8) d.want d.utf d.end_).toArray 40 (0, 0)) := (by rw [← hw8]; apply hset_eq; (repeat (first | (with_reducible exact HO9.out) | (with_reducible apply hset_set))); simp only [List.setIfInBounds_toArray, List.set_cons_zero, List.set_cons_succ]); have hG8 : w9.grownBy w8 (some w1.heap.size) := (by rw [← hw8]; (repeat (with_reducible refine only_cell ?_ _ _)); with_reducible exact only_refl _ _); clear hw8 kO fO hBO; have hz8 := hG8.size; have HA8 := Lib.hid ((hG8.block _ hBA (by simp; omega)).trans HA9.out); clear kA fA hBA; have kA := box_cells HA8.out; have fA := box_frozen HA8.out; have hBA := box_lt HA8.out; rw [HML.out] at kA; have Q1b := Lib.hid (Q1.out.keepBy hG8 (other_box HO9.out (by decide)) (other_box HO9.out (by decide))); clear Q1; have Q1 := Q1b; clear Q1b; have Q2b := Lib.hid (owns_keep Q2.out hG8 (other_box HO9.out (by decide))); clear Q2; have Q2 := Q2b; clear Q2b; have HR8 := Lib.hid ((hG8.block _ (by omega) (by simp; omega)).trans HR9.out); clear HR9; have hbw8 : Below w.heap.size w w8 := below_grown hbw9 hG8 (fun g e => by have := Option.some.inj e; omega) (by omega); have HO8 := Lib.hid hO8; clear hO8 hG8; refine wlm w1.heap.size (c1111 (.slice a1 xs.length cap1) (.slice sa1 ls.length scap1) d.p 5 0 0 d.start d.at_ f (u % 8) d.want d.utf d.end_) (range_of_box (t := 40) HO8.out) ?_) | ((with_reducible refine gs ?_); refine wsr (w.heap.size + 1) (c1111 (.slice a1 xs.length cap1) (.slice sa1 ls.length scap1) d.p 5 0 0 d.start d.at_ f (u % 8) d.want d.utf d.end_).toArray (hset_alloc HR8.out) ?_))
            rw [HO2.out]
            refine finDE (w := w) (R := w.heap.size + 1) (base := w.heap.size + 1 + 1) (e := tagK d f (u % 8) 5) (ms := ls) (es := ([] : List Ev)) (rs := rs1) (a := a1) (cap := cap1) (sa := sa1) (scap := scap1) (ea := some ⟨w8.heap.size, 0, none⟩) (ecap := 0) Tryz.results24 ?_ ?_ ?_ ?_ ?_ ?_ ?_ (by omega)
            ·rfl
            ·rfl
            ·exact hset_row (cs := dz0.toArray) (hset_alloc HR8.out)
            ·exact OwnShs.setRow (Q1.out.alloc _) (by omega) _
            ·exact owns_setRow (Q2.out.alloc _) (by omega) _
            ·exact owns_setRow (owns_le (own_built w8 38 7) (by omega)) (by omega) _
            ·exact bl
          ·have hv5 : u % 8 = 5 := by simp only [wireOk, Bool.or_eq_true, beq_iff_eq] at hwk; omega
           have hwd : widthOf (u % 8) = 4 := by rw [hv5]; rfl
           have hK : (5 : Int) = if u % 8 = 0 then 3 else if u % 8 = 2 then 4 else 5 := by rw [hv5]; rfl
           have HKk := Lib.hid hK; have HWD := Lib.hid hwd; clear hK hwd
           clear hv5
           by_cases ht : l.left < 4
           ·skip
            go_wp2_with fail
            refine (specWidthOf_any (u % 8) _).mono ?_
            rintro r _ ⟨rfl, rfl⟩
            rw [HWD.out]
            have HO2 := Lib.hid (tagO_end (k := 5) hok hnb hwk hlast HF.out hnk HKk.out (by rw [htl, HWD.out]; omega))
            go_wp2_with (first | ((with_reducible refine gl ?_); generalize hw8 : World.setCell _ (⟨w1.heap.size, 4, none⟩ : Addr) (.int .i64 5) = w8; have hO8 : w8.heap[w1.heap.size]? = some (.cells (c1111 (.slice a1 xs.length cap1) (.slice sa1 ls.length scap1) d.p 5 0 0 d.start d.at_ f (u % 8) d.want d.utf d.end_).toArray 40 (0, 0)) := (by rw [← hw8]; apply hset_eq; (repeat (first | (with_reducible exact HO9.out) | (with_reducible apply hset_set))); simp only [List.setIfInBounds_toArray, List.set_cons_zero, List.set_cons_succ]); have hG8 : w9.grownBy w8 (some w1.heap.size) := (by rw [← hw8]; (repeat (with_reducible refine only_cell ?_ _ _)); with_reducible exact only_refl _ _); clear hw8 kO fO hBO; have hz8 := hG8.size; have HA8 := Lib.hid ((hG8.block _ hBA (by simp; omega)).trans HA9.out); clear kA fA hBA; have kA := box_cells HA8.out; have fA := box_frozen HA8.out; have hBA := box_lt HA8.out; rw [HML.out] at kA; have Q1b := Lib.hid (Q1.out.keepBy hG8 (other_box HO9.out (by decide)) (other_box HO9.out (by decide))); clear Q1; have Q1 := Q1b; clear Q1b; have Q2b := Lib.hid (owns_keep Q2.out hG8 (other_box HO9.out (by decide))); clear Q2; have Q2 := Q2b; clear Q2b; have HR8 := Lib.hid ((hG8.block _ (by omega) (by simp; omega)).trans HR9.out); clear HR9; have hbw8 : Below w.heap.size w w8 := below_grown hbw9 hG8 (fun g e => by have := Option.some.inj e; omega) (by omega); have HO8 := Lib.hid hO8; clear hO8 hG8; refine wlm w1.heap.size (c1111 (.slice a1 xs.length cap1) (.slice sa1 ls.length scap1) d.p 5 0 0 d.start d.at_ f (u % 8) d.want d.utf d.end_) (range_of_box (t := 40) HO8.out) ?_))
            refine (l15Fail_any (tagK d f (u % 8) 5) a1 cap1 xs.length sa1 scap1 ls.length 9 d.at_ _).mono ?_
            rintro r w7 ⟨ea, ecap, rfl, ho7, hb7⟩
            have hz7 := hb7.size
            have Q1b := Lib.hid (Q1.out.chain hb7 (Nat.le_refl _)); clear Q1
            have Q2b := Lib.hid (owns_below Q2.out hb7 (Nat.le_refl _)); clear Q2
            have Q3 := Lib.hid (owns_le ho7 (show w.heap.size + 1 + 1 ≤ _ by omega)); clear ho7
            have HR7 := Lib.hid ((hb7.block _ (by omega)).trans HR8.out); clear HR8
            have hbw7 : Below w.heap.size w w7 := hbw8.trans (hb7.mono (by omega))
            go_wp2_with (first | ((with_reducible refine gs ?_); refine wsr (w.heap.size + 1) (c1110 (.slice a1 xs.length cap1) (.slice sa1 ls.length scap1) d.p 9 0 0 d.start d.at_ f (u % 8) 0 d.utf 10 0 0 0 ⟨#[]⟩ 9 d.at_).toArray HR7.out ?_))
            rw [HO2.out, failO]
            refine finDE (w := w) (R := w.heap.size + 1) (base := w.heap.size + 1 + 1) (e := failD (tagK d f (u % 8) 5) 9 d.at_) (ms := ls) (es := [failE 9 d.at_]) (rs := rs1) (a := a1) (cap := cap1) (sa := sa1) (scap := scap1) (ea := ea) (ecap := ecap) Tryz.results24 ?_ ?_ ?_ ?_ ?_ ?_ ?_ (by omega)
            ·rfl
            ·rfl
            ·exact hset_row (cs := dz0.toArray) HR7.out
            ·exact OwnShs.setRow Q1b.out (by omega) _
            ·exact owns_setRow Q2b.out (by omega) _
            ·exact owns_setRow Q3.out (by omega) _
            ·exact bl
           ·skip
            go_wp2_with fail
            refine (specWidthOf_any (u % 8) _).mono ?_
            rintro r _ ⟨rfl, rfl⟩
            rw [HWD.out]
            have HO2 := Lib.hid (tagO_ok (k := 5) hok hnb hwk hlast HF.out hnk HKk.out (by rw [htl, HWD.out]; omega))
            go_wp2_with (first | ((with_reducible refine gl ?_); generalize hw8 : World.setCell _ (⟨w1.heap.size, 4, none⟩ : Addr) (.int .i64 5) = w8; have hO8 : w8.heap[w1.heap.size]? = some (.cells (c1111 (.slice a1 xs.length cap1) (.slice sa1 ls.length scap1) d.p 5 0 0 d.start d.at_ f (u % 8) d.want d.utf d.end_).toArray 40 (0, 0)) := (by rw [← hw8]; apply hset_eq; (repeat (first | (with_reducible exact HO9.out) | (with_reducible apply hset_set))); simp only [List.setIfInBounds_toArray, List.set_cons_zero, List.set_cons_succ]); have hG8 : w9.grownBy w8 (some w1.heap.size) := (by rw [← hw8]; (repeat (with_reducible refine only_cell ?_ _ _)); with_reducible exact only_refl _ _); clear hw8 kO fO hBO; have hz8 := hG8.size; have HA8 := Lib.hid ((hG8.block _ hBA (by simp; omega)).trans HA9.out); clear kA fA hBA; have kA := box_cells HA8.out; have fA := box_frozen HA8.out; have hBA := box_lt HA8.out; rw [HML.out] at kA; have Q1b := Lib.hid (Q1.out.keepBy hG8 (other_box HO9.out (by decide)) (other_box HO9.out (by decide))); clear Q1; have Q1 := Q1b; clear Q1b; have Q2b := Lib.hid (owns_keep Q2.out hG8 (other_box HO9.out (by decide))); clear Q2; have Q2 := Q2b; clear Q2b; have HR8 := Lib.hid ((hG8.block _ (by omega) (by simp; omega)).trans HR9.out); clear HR9; have hbw8 : Below w.heap.size w w8 := below_grown hbw9 hG8 (fun g e => by have := Option.some.inj e; omega) (by omega); have HO8 := Lib.hid hO8; clear hO8 hG8; refine wlm w1.heap.size (c1111 (.slice a1 xs.length cap1) (.slice sa1 ls.length scap1) d.p 5 0 0 d.start d.at_ f (u % 8) d.want d.utf d.end_) (range_of_box (t := 40) HO8.out) ?_) | ((with_reducible refine gs ?_); refine wsr (w.heap.size + 1) (c1111 (.slice a1 xs.length cap1) (.slice sa1 ls.length scap1) d.p 5 0 0 d.start d.at_ f (u % 8) d.want d.utf d.end_).toArray (hset_alloc HR8.out) ?_))
            rw [HO2.out]
            refine finDE (w := w) (R := w.heap.size + 1) (base := w.heap.size + 1 + 1) (e := tagK d f (u % 8) 5) (ms := ls) (es := ([] : List Ev)) (rs := rs1) (a := a1) (cap := cap1) (sa := sa1) (scap := scap1) (ea := some ⟨w8.heap.size, 0, none⟩) (ecap := 0) Tryz.results24 ?_ ?_ ?_ ?_ ?_ ?_ ?_ (by omega)
            ·rfl
            ·rfl
            ·exact hset_row (cs := dz0.toArray) (hset_alloc HR8.out)
            ·exact OwnShs.setRow (Q1.out.alloc _) (by omega) _
            ·exact owns_setRow (Q2.out.alloc _) (by omega) _
            ·exact owns_setRow (owns_le (own_built w8 38 7) (by omega)) (by omega) _
            ·exact bl
end Go.Proofs.YtabdjimjelfbfaaGreat

/- Texts that FnTag leans on, part 17. (Put together by wip/tools/bundle.py.) -/
import Derived.Test.YtabdjimjelfbfaaGreatTag1
import Derived.Test.YtabdjimjelfbfaaGreatTag2
import Derived.Test.YtabdjimjelfbfaaGreatTag3
import Derived.Test.YtabdjimjelfbfaaGreatTag4
import Derived.Test.YtabdjimjelfbfaaGreatTag5
import Derived.Test.YtabdjimjelfbfaaGreatTag6
namespace Go.Proofs.YtabdjimjelfbfaaGreat
set_option linter.unusedSimpArgs false
set_option linter.unusedVariables false
open Go.ChangeShapes Go.WideShapes Go.ChangeAt Go.RowKit Go.BigFrame
@[go_sem] theorem u64_and7 (n : Int) : bits .and .u64 n 7 = n % 8 := by
 have h7 : (BitVec.ofInt 64 7).toNat = 2 ^ 3 - 1 := by decide
 have key : (BitVec.ofInt 64 n &&& BitVec.ofInt 64 7).toNat = (n % ((2 ^ 64 : Nat) : Int)).toNat % 2 ^ 3 := by
  rw [BitVec.toNat_and, BitVec.toNat_ofInt, h7, Nat.and_two_pow_sub_one_eq_mod]
 show IntKind.u64.wrap ((BitVec.ofInt 64 n &&& BitVec.ofInt 64 7).toNat : Nat) = n % 8
 rw [key, IntKind.wrap_u64]
 omega
set_option maxHeartbeats 1000000 in
theorem implTagIn_any (u : Int) (w : World) (hu : (Lit.int .u64 u).wf = true) : Calls Tryz.prog 92 #[.int .u64 u] w fun r w' => r = .returned (.tuple #[.int .i64 (tagQ u), .int .i64 (tagV u), .bool (tagOk u)]) ∧ w = w' := by
 have hu0 := (WU64.lo hu)
 by_cases h1 : u < 8
 ·skip
  have hk : tagOk u = false := by simp only [tagOk, decide_eq_false_iff_not]; omega
  have hq : tagQ u = 0 := by simp [tagQ, hk]
  have hv : tagV u = 0 := by simp [tagV, hk]
  rw [hk, hq, hv]
  go_enter Tryz.func92, Tryz.ntmps92
  go_wp2
  exact bodyPost_ret (by simp [results, Tryz.results92, go_sem]) rfl ⟨rfl, rfl⟩
 ·by_cases h2 : 536870911 < u / 8
  ·skip
   have hk : tagOk u = false := by simp only [tagOk, decide_eq_false_iff_not]; omega
   have hq : tagQ u = 0 := by simp [tagQ, hk]
   have hv : tagV u = 0 := by simp [tagV, hk]
   rw [hk, hq, hv]
   have h3 : decide (4294967295 < u) = true := decide_eq_true (by omega)
   have h4 : decide (536870911 < u / 8) = true := decide_eq_true h2
   go_enter Tryz.func92, Tryz.ntmps92
   go_wp2
   exact bodyPost_ret (by simp [results, Tryz.results92, go_sem]) rfl ⟨rfl, rfl⟩
  ·have hk : tagOk u = true := by simp only [tagOk, decide_eq_true_eq]; omega
   have hq : tagQ u = u / 8 := by simp [tagQ, hk]
   have hv : tagV u = u % 8 := by simp [tagV, hk]
   rw [hk, hq, hv]
   have h3 : decide (4294967295 < u) = false := decide_eq_false (by omega)
   have h4 : decide (536870911 < u / 8) = false := decide_eq_false h2
   have e1 : IntKind.i64.wrap (u / 8) = u / 8 := IntWalk.i64_in _ (by omega)
   have e2 : IntKind.i64.wrap (u % 8) = u % 8 := IntWalk.i64_in _ (by omega)
   go_enter Tryz.func92, Tryz.ntmps92
   go_wp2
   exact bodyPost_ret (by simp [results, Tryz.results92, go_sem]) rfl ⟨rfl, rfl⟩
set_option maxRecDepth 100000 in
set_option maxHeartbeats 6000000 in
theorem tag_any (base : Nat) (w0 w : World) (M : Nat) (d : Dc) (xs : List Shp) (ls : List Lvl) (u : Int) (hm : Mach base w0 w M d xs ls []) (hn : xs.length ≤ 1048576) (hm2 : fldSum xs ≤ 1048576) (hm' : ls.length ≤ 1048576) (hok : lvOk d xs ls = true) (hu : (Lit.int .u64 u).wf = true) :
  Calls Tryz.prog 58 #[.pointer (some ⟨M, 0, none⟩), .int .u64 u] w fun r w' => r = .returned (.tuple #[]) ∧ Mach base w0 w' M (tagO d xs ls u).1 xs (tagO d xs ls u).2.1 (tagO d xs ls u).2.2 := by
 obtain ⟨a, cap, rs, sa, scap, ea, ecap, hm⟩ := hm
 have HM := Lib.hid hm; clear hm
 have kM := box_cells HM.out.box; have fM := box_frozen HM.out.box; have hBM := HM.out.lt
 obtain ⟨R, hR⟩ : ∃ R, tagO d xs ls u = R := ⟨_, rfl⟩
 rw [hR]
 have HR := Lib.hid hR; clear hR
 go_enter Tryz.func58, Tryz.ntmps58
 go_wp2_with fail
 generalize hw2 : World.setCell _ (⟨M, 7, none⟩ : Addr) (.int .i64 0) = w2
 have hB2 : w2.heap[M]? = some (.cells #[.slice a xs.length cap, .int .i64 d.p.root, .int .i64 d.p.deep, .int .i64 d.p.most, .int .i64 d.mode, .slice sa ls.length scap, .int .u64 (0), .int .i64 (0), .int .i64 d.start, .int .i64 d.at_, .int .i64 d.field.number, .int .i64 d.field.kind, .bool d.field.rep, .bool d.field.packed, .int .i64 d.field.msg, .int .i64 d.wire, .int .i64 d.want, .int .i64 d.utf.want, .int .i64 d.utf.low, .int .i64 d.utf.high, .int .i64 d.end_.kind, .int .i64 d.end_.field, .int .u64 d.end_.bits, .int .i64 d.end_.len, .string d.end_.text, .int .i64 d.end_.code, .int .i64 d.end_.at_, .slice ea ([] : List Ev).length ecap] 88 (0, 0)) := by rw [← hw2]; apply hset_eq; (repeat (first | (with_reducible exact HM.out.box) | (with_reducible apply hset_set))); simp only [List.setIfInBounds_toArray, List.set_cons_zero, List.set_cons_succ]
 have hG2 : w.grownBy w2 (some M) := by rw [← hw2]; (repeat (with_reducible refine only_cell ?_ _ _)); exact only_refl _ _
 clear hw2 kM fM hBM
 have H2 := Lib.hid (show MachI base w0 w2 M (scan0 d) xs ls [] a cap rs sa scap ea ecap from HM.out.upd hG2 hB2); clear hG2 HM
 have HB2 := Lib.hid hB2; clear hB2
 have kM := box_cells HB2.out; have fM := box_frozen HB2.out; have hBM := box_lt HB2.out
 refine (implTagIn_any u _ hu).mono ?_
 rintro r _ ⟨rfl, rfl⟩
 cases htk : tagOk u
 ·have hbad : u < 8 ∨ 536870911 < u / 8 ∨ ls = [] := by simp only [tagOk, decide_eq_false_iff_not] at htk; omega
  have eR := Lib.hid (HR.out.symm.trans (tagO_bad hok hbad))
  go_wp2_with fail
  refine (fails_any base w0 _ M (scan0 d) xs ls [] 2 d.start ⟨_, _, _, _, _, _, _, H2.out⟩ (by simp)).mono ?_
  rintro r w7 ⟨rfl, h7⟩
  have H7 := Lib.hid h7; clear h7
  clear kM fM hBM
  go_wp2
  rw [eR.out]
  exact bodyPost_ret (v := .tuple #[]) (results_none rfl _ _ _) rfl ⟨rfl, H7.out⟩
 ·by_cases hls : ls = []
  ·have hl0 : ((ls.length : Int) == 0) = true := by rw [hls]; rfl
   have HLS := Lib.hid hls; clear hls
   have eR := Lib.hid (HR.out.symm.trans (tagO_bad (u := u) hok (.inr (.inr HLS.out))))
   go_wp2_with fail
   refine (fails_any base w0 _ M (scan0 d) xs ls [] 2 d.start ⟨_, _, _, _, _, _, _, H2.out⟩ (by simp)).mono ?_
   rintro r w7 ⟨rfl, h7⟩
   have H7 := Lib.hid h7; clear h7
   clear kM fM hBM
   go_wp2
   rw [eR.out]
   exact bodyPost_ret (v := .tuple #[]) (results_none rfl _ _ _) rfl ⟨rfl, H7.out⟩
  ·obtain ⟨m, hml⟩ : ∃ m, ls.length = m + 1 := ⟨ls.length - 1, by have : ls.length ≠ 0 := fun e => hls (List.eq_nil_of_length_eq_zero e); omega⟩
   obtain ⟨l, he⟩ : ∃ l, ls[m]? = some l := ⟨_, List.getElem?_eq_getElem (by omega)⟩
   have hlast : ls.getLast? = some l := by rw [List.getLast?_eq_getElem?, hml]; exact he
   have htl : topL ls = l.left := by simp only [topL, hlast]
   have hnb : ¬ (u < 8 ∨ 536870911 < u / 8 ∨ ls = []) := by simp only [tagOk, decide_eq_true_eq] at htk; simp only [hls, or_false]; exact htk
   have hq : tagQ u = u / 8 := by simp [tagQ, htk]
   have hv : tagV u = u % 8 := by simp [tagV, htk]
   rw [hq, hv]
   obtain ⟨b, off, rfl, hlb, c0, c1⟩ := Lvls.at (lvls_of_own H2.out.lv rfl) he
   have hl0 : (((m + 1 : Nat) : Int) == 0) = false := by simp; omega
   rw [hml] at kM
   have hmw : IntKind.i64.wrap (m : Int) = m := IntWalk.i64_in _ (by omega)
   have hm0 : (0 : Int) ≤ (m : Int) := by omega
   have hmlt : (m : Int) < (m : Int) + 1 := by omega
   have HML := Lib.hid hml; clear hml
   obtain ⟨⟨f, kn⟩, hf⟩ : ∃ p, p = fieldAt xs l.msg (u / 8) := ⟨_, rfl⟩
   have HF := Lib.hid hf; clear hf
   have cM0 := kM 0; have cM5 := kM 5
   simp only [List.getElem?_toArray, List.getElem?_cons_zero, List.getElem?_cons_succ] at cM0 cM5
   clear he hls hq hv
   go_wp2_with fail
   refine wp_region_till (Cells [(⟨M, 0, none⟩, .slice a xs.length cap), (⟨M, 5, none⟩, .slice (some ⟨b, off, none⟩) (m + 1) scap), (⟨b, off + m * 2, none⟩, .int .i64 l.msg)]) (fun i => decide (28 ≤ i)) (by kernel_rfl) ?_
   have hS : Cells [(⟨M, 0, none⟩, .slice a xs.length cap), (⟨M, 5, none⟩, .slice (some ⟨b, off, none⟩) (m + 1) scap), (⟨b, off + m * 2, none⟩, .int .i64 l.msg)] w2.drew := cells_mk cM0 (cells_mk cM5 (cells_mk c0 (cells_no _)))
   clear cM0 cM5 c0 c1
   refine tk (i := 0) hS ?_
   refine tk (i := 1) hS ?_
   refine tk (i := 2) hS ?_
   refine tk (i := 3) hS ?_
   refine tk (i := 4) hS ?_
   refine tk (i := 5) hS ?_
   refine tk (i := 6) hS ?_
   refine tk (i := 7) hS ?_
   refine tk (i := 8) hS ?_
   refine tk (i := 9) hS ?_
   refine tk (i := 10) hS ?_
   refine tk (i := 11) hS ?_
   refine tk (i := 12) hS ?_
   refine tk (i := 13) hS ?_
   refine tk (i := 14) hS ?_
   refine tk (i := 15) hS ?_
   refine tk (i := 16) hS ?_
   refine tk (i := 17) hS ?_
   refine tk (i := 18) hS ?_
   refine tk (i := 19) hS ?_
   refine tk (i := 20) hS ?_
   refine tk (i := 21) hS ?_
   clear kM fM hBM
   refine wpTill_two (i := 22) (j := 26) (by kernel_rfl) rfl rfl (fun K hK => ?_) (fun K hK => ?_)
   ·skip
    go_simp
    refine (implFieldAt_any a cap _ xs l.msg (u / 8) _ (H2.out.sh.shs.keep (show Below w2.heap.size w2 _ from by exact bl)) rfl hn hm2).mono ?_
    rintro r w5 ⟨rfl, hb5⟩
    rw [← HF.out]
    have hb45 : Below w2.heap.size w2 w5 := by exact bl
    have hz45 := hb45.size
    refine hK.out _ _ (fun _ => hS.below hb5) ?_
    have hS5 := hS.below hb5; clear hS; have hS := hS5; clear hS5
    clear hK K
    try simp only [Act.put, List.setIfInBounds_toArray, List.set_cons_zero, List.set_cons_succ]
    refine tk (i := 23) hS ?_
    refine tk (i := 24) hS ?_
    refine tk (i := 25) hS ?_
    refine wpTill_op (i := 26) (by kernel_rfl) rfl (fun K hK => ?_)
    go_simp
    refine hK.out _ _ (fun _ => hS.alloc _) ?_
    have hS5 := hS.alloc (.cells #[.int .i64 0, .int .i64 0, .bool false, .bool false, .int .i64 0] 34); clear hS; have hS := hS5; clear hS5
    clear hK K
    try simp only [Act.put, List.setIfInBounds_toArray, List.set_cons_zero, List.set_cons_succ]
    refine wpTill_op (i := 27) (by kernel_rfl) rfl (fun K hK => ?_)
    refine step_store_row rfl 34 (.tmp 7) (.tmp 62) rfl w5.heap.size #[.int .i64 f.number, .int .i64 f.kind, .bool f.rep, .bool f.packed, .int .i64 f.msg] rfl rfl 34 #[.int .i64 0, .int .i64 0, .bool false, .bool false, .int .i64 0] (hset_new rfl) (by kernel_rfl) rfl (by simp [Value.oneCell']) ?_
    have hS16 := hS.grown (only_rowT _ (w5.heap.size) #[.int .i64 f.number, .int .i64 f.kind, .bool f.rep, .bool f.packed, .int .i64 f.msg]) (by intro q hq; simp only [List.mem_cons, List.not_mem_nil, or_false] at hq; have hx := box_lt HB2.out; rcases hq with rfl | rfl | rfl <;> simp only [ne_eq, Option.some.injEq] <;> omega)
    refine hK.out _ _ (fun _ => hS16) ?_
    clear hK K hS
    try simp only [Act.put, List.setIfInBounds_toArray, List.set_cons_zero, List.set_cons_succ]
    refine wpTill_op (i := 28) (by kernel_rfl) rfl (fun K hK => ?_)
    go_simp
    refine hK.out _ _ (fun e => by cases e) ?_
    clear hK K
    try simp only [Act.put, List.setIfInBounds_toArray, List.set_cons_zero, List.set_cons_succ]
    refine wpTill_done (by kernel_rfl) ?_ _
    obtain ⟨w6, hw6⟩ : ∃ w6, w6 = (w5.alloc (.cells #[.int .i64 0, .int .i64 0, .bool false, .bool false, .int .i64 0] 34)).setRow w5.heap.size #[.int .i64 f.number, .int .i64 f.kind, .bool f.rep, .bool f.packed, .int .i64 f.msg] := ⟨_, rfl⟩
    obtain ⟨F, hF⟩ : ∃ F, F = w5.heap.size := ⟨_, rfl⟩
    have hF6 : w6.heap[F]? = some (.cells #[.int .i64 f.number, .int .i64 f.kind, .bool f.rep, .bool f.packed, .int .i64 f.msg] 34 (0, 0)) := by rw [hw6, hF]; exact hset_row (cs := #[.int .i64 0, .int .i64 0, .bool false, .bool false, .int .i64 0]) (hset_new rfl)
    have hb26 : Below w2.heap.size w2 w6 := by rw [hw6]; exact bl
    rw [← hw6, ← hF]
    clear hw6 hF hb45
    have hB6 := Lib.hid ((hb26.block _ (box_lt HB2.out)).trans HB2.out)
    have H6 := Lib.hid (H2.out.keep hb26); clear H2 HB2 hb26 hb5
    have HB6 := hB6; clear hB6
    have kF := box_cells hF6; have fF := box_frozen hF6; have hBF := box_lt hF6
    have HF6 := Lib.hid hF6; clear hF6 hlb
    have kM := box_cells HB6.out; have fM := box_frozen HB6.out; have hBM := box_lt HB6.out
    have hFM : F ≠ M := fun e => by subst e; exact absurd (typed_ne HF6.out HB6.out) (by decide)
    go_wp2_with fail
    refine (implWireOk_any (u % 8) _).mono ?_
    rintro r _ ⟨rfl, rfl⟩
    cases hwk : wireOk (u % 8)
    ·skip
     have eR := Lib.hid (HR.out.symm.trans (tagO_wire (xs := xs) hok hnb hwk))
     go_wp2_with fail
     refine (fails_any base w0 _ M (scan0 d) xs ls [] 3 d.start ⟨_, _, _, _, _, _, _, H6.out⟩ (by simp)).mono ?_
     rintro r w7 ⟨rfl, h7⟩
     have H7 := Lib.hid h7; clear h7
     clear kM fM hBM
     go_wp2
     rw [eR.out]
     exact bodyPost_ret (v := .tuple #[]) (results_none rfl _ _ _) rfl ⟨rfl, H7.out⟩
    ·cases hkn : kn
     ·skip
      have hnk : ¬ (kn = true ∧ allowed f (u % 8) = false) := by rw [hkn]; simp
      by_cases hv0 : u % 8 = 0
      ·have g0 : (u % 8 == 0) = true := by simp; omega
       have hwd : widthOf (u % 8) = 0 := by rw [hv0]; rfl
       have hK : (3 : Int) = if u % 8 = 0 then 3 else if u % 8 = 2 then 4 else 5 := by rw [hv0]; rfl
       have HKk := Lib.hid hK; have HWD := Lib.hid hwd; clear hK hwd
       clear hv0
       go_wp2_with (first | ((with_reducible show wpList _ _ _ (⟨_, Op.load 40 _, _, _, _, _⟩ :: _) _ _); generalize hw8 : World.setCell _ (⟨M, 4, none⟩ : Addr) (.int .i64 3) = w8; have hB8 : w8.heap[M]? = some (.cells #[.slice a xs.length cap, .int .i64 d.p.root, .int .i64 d.p.deep, .int .i64 d.p.most, .int .i64 (3), .slice (some ⟨b, off, none⟩) ls.length scap, .int .u64 (0), .int .i64 (0), .int .i64 d.start, .int .i64 d.at_, .int .i64 (f.number), .int .i64 (f.kind), .bool (f.rep), .bool (f.packed), .int .i64 (f.msg), .int .i64 (u % 8), .int .i64 d.want, .int .i64 d.utf.want, .int .i64 d.utf.low, .int .i64 d.utf.high, .int .i64 d.end_.kind, .int .i64 d.end_.field, .int .u64 d.end_.bits, .int .i64 d.end_.len, .string d.end_.text, .int .i64 d.end_.code, .int .i64 d.end_.at_, .slice ea ([] : List Ev).length ecap] 88 (0, 0)) := (by rw [← hw8]; apply hset_eq; (repeat (first | (with_reducible exact HB6.out) | (with_reducible apply hset_set))); simp only [List.setIfInBounds_toArray, List.set_cons_zero, List.set_cons_succ]); have hG8 : w6.grownBy w8 (some M) := (by rw [← hw8]; (repeat (with_reducible refine only_cell ?_ _ _)); with_reducible exact only_refl _ _); clear hw8 kM fM hBM; have H8 := Lib.hid (show MachI base w0 w8 M (tagK d f (u % 8) 3) xs ls [] a cap rs (some ⟨b, off, none⟩) scap ea ecap from H6.out.upd hG8 hB8); clear hG8 H6 HB6; have HB8 := Lib.hid hB8; have kM := box_cells hB8; clear hB8; refine wlm M (c1111 (.slice a xs.length cap) (.slice (some ⟨b, off, none⟩) ls.length scap) d.p 3 0 0 d.start d.at_ f (u % 8) d.want d.utf d.end_) (fun j u hj => (kM (0 + j)).trans (by rw [Nat.zero_add, List.getElem?_toArray]; exact pre_at hj)) ?_))
       refine (implTop_any (tagK d f (u % 8) 3) a cap _ xs (some ⟨b, off, none⟩) scap _ ls _ H8.out.sh.shs (lvls_of_own H8.out.lv rfl) rfl rfl hn hm2 hm').mono ?_
       rintro r w10 ⟨rfl, hb10⟩
       rw [htl]
       have H10 := Lib.hid (H8.out.keep hb10); clear H8
       have HB10 := Lib.hid ((hb10.block _ (box_lt HB8.out)).trans HB8.out); clear HB8 kM hb10
       have kM := box_cells HB10.out; have fM := box_frozen HB10.out; have hBM := box_lt HB10.out
       go_wp2_with fail
       refine (implWidthOf_any (u % 8) _).mono ?_
       rintro r _ ⟨rfl, rfl⟩
       rw [HWD.out]
       by_cases ht : l.left < 1
       ·skip
        have eR := Lib.hid (HR.out.symm.trans (tagO_end (k := 3) hok hnb hwk hlast HF.out hnk HKk.out (by rw [htl, HWD.out]; omega)))
        go_wp2_with fail
        refine (fails_any base w0 _ M (tagK d f (u % 8) 3) xs ls [] 9 d.at_ ⟨_, _, _, _, _, _, _, H10.out⟩ (by simp)).mono ?_
        rintro r w7 ⟨rfl, h7⟩
        have H7 := Lib.hid h7; clear h7
        clear kM fM hBM
        go_wp2
        go_end0
        rw [eR.out]
        exact ⟨rfl, H7.out⟩
       ·have eR := Lib.hid (HR.out.symm.trans (tagO_ok (k := 3) hok hnb hwk hlast HF.out hnk HKk.out (by rw [htl, HWD.out]; omega)))
        go_wp2_with fail
        go_end0
        rw [eR.out]
        exact ⟨rfl, _, _, _, _, _, _, _, H10.out⟩
      ·by_cases hv2 : u % 8 = 2
       ·have g0 : (u % 8 == 0) = false := by simp; omega
        have g2 : (u % 8 == 2) = true := by simp; omega
        have hwd : widthOf (u % 8) = 0 := by rw [hv2]; rfl
        have hK : (4 : Int) = if u % 8 = 0 then 3 else if u % 8 = 2 then 4 else 5 := by rw [hv2]; rfl
        have HKk := Lib.hid hK; have HWD := Lib.hid hwd; clear hK hwd
        clear hv2
        go_wp2_with (first | ((with_reducible show wpList _ _ _ (⟨_, Op.load 40 _, _, _, _, _⟩ :: _) _ _); generalize hw8 : World.setCell _ (⟨M, 4, none⟩ : Addr) (.int .i64 4) = w8; have hB8 : w8.heap[M]? = some (.cells #[.slice a xs.length cap, .int .i64 d.p.root, .int .i64 d.p.deep, .int .i64 d.p.most, .int .i64 (4), .slice (some ⟨b, off, none⟩) ls.length scap, .int .u64 (0), .int .i64 (0), .int .i64 d.start, .int .i64 d.at_, .int .i64 (f.number), .int .i64 (f.kind), .bool (f.rep), .bool (f.packed), .int .i64 (f.msg), .int .i64 (u % 8), .int .i64 d.want, .int .i64 d.utf.want, .int .i64 d.utf.low, .int .i64 d.utf.high, .int .i64 d.end_.kind, .int .i64 d.end_.field, .int .u64 d.end_.bits, .int .i64 d.end_.len, .string d.end_.text, .int .i64 d.end_.code, .int .i64 d.end_.at_, .slice ea ([] : List Ev).length ecap] 88 (0, 0)) := (by rw [← hw8]; apply hset_eq; (repeat (first | (with_reducible exact HB6.out) | (with_reducible apply hset_set))); simp only [List.setIfInBounds_toArray, List.set_cons_zero, List.set_cons_succ]); have hG8 : w6.grownBy w8 (some M) := (by rw [← hw8]; (repeat (with_reducible refine only_cell ?_ _ _)); with_reducible exact only_refl _ _); clear hw8 kM fM hBM; have H8 := Lib.hid (show MachI base w0 w8 M (tagK d f (u % 8) 4) xs ls [] a cap rs (some ⟨b, off, none⟩) scap ea ecap from H6.out.upd hG8 hB8); clear hG8 H6 HB6; have HB8 := Lib.hid hB8; have kM := box_cells hB8; clear hB8; refine wlm M (c1111 (.slice a xs.length cap) (.slice (some ⟨b, off, none⟩) ls.length scap) d.p 4 0 0 d.start d.at_ f (u % 8) d.want d.utf d.end_) (fun j u hj => (kM (0 + j)).trans (by rw [Nat.zero_add, List.getElem?_toArray]; exact pre_at hj)) ?_))
        refine (implTop_any (tagK d f (u % 8) 4) a cap _ xs (some ⟨b, off, none⟩) scap _ ls _ H8.out.sh.shs (lvls_of_own H8.out.lv rfl) rfl rfl hn hm2 hm').mono ?_
        rintro r w10 ⟨rfl, hb10⟩
        rw [htl]
        have H10 := Lib.hid (H8.out.keep hb10); clear H8
        have HB10 := Lib.hid ((hb10.block _ (box_lt HB8.out)).trans HB8.out); clear HB8 kM hb10
        have kM := box_cells HB10.out; have fM := box_frozen HB10.out; have hBM := box_lt HB10.out
        go_wp2_with fail
        refine (implWidthOf_any (u % 8) _).mono ?_
        rintro r _ ⟨rfl, rfl⟩
        rw [HWD.out]
        by_cases ht : l.left < 1
        ·skip
         have eR := Lib.hid (HR.out.symm.trans (tagO_end (k := 4) hok hnb hwk hlast HF.out hnk HKk.out (by rw [htl, HWD.out]; omega)))
         go_wp2_with fail
         refine (fails_any base w0 _ M (tagK d f (u % 8) 4) xs ls [] 9 d.at_ ⟨_, _, _, _, _, _, _, H10.out⟩ (by simp)).mono ?_
         rintro r w7 ⟨rfl, h7⟩
         have H7 := Lib.hid h7; clear h7
         clear kM fM hBM
         go_wp2
         go_end0
         rw [eR.out]
         exact ⟨rfl, H7.out⟩
        ·have eR := Lib.hid (HR.out.symm.trans (tagO_ok (k := 4) hok hnb hwk hlast HF.out hnk HKk.out (by rw [htl, HWD.out]; omega)))
         go_wp2_with fail
         go_end0
         rw [eR.out]
         exact ⟨rfl, _, _, _, _, _, _, _, H10.out⟩
       ·have g0 : (u % 8 == 0) = false := by simp; omega
        have g2 : (u % 8 == 2) = false := by simp; omega
        by_cases hv1 : u % 8 = 1
        ·skip
         have hwd : widthOf (u % 8) = 8 := by rw [hv1]; rfl
         have hK : (5 : Int) = if u % 8 = 0 then 3 else if u % 8 = 2 then 4 else 5 := by rw [hv1]; rfl
         have HKk := Lib.hid hK; have HWD := Lib.hid hwd; clear hK hwd
         clear hv1
         go_wp2_with (first | ((with_reducible show wpList _ _ _ (⟨_, Op.load 40 _, _, _, _, _⟩ :: _) _ _); generalize hw8 : World.setCell _ (⟨M, 4, none⟩ : Addr) (.int .i64 5) = w8; have hB8 : w8.heap[M]? = some (.cells #[.slice a xs.length cap, .int .i64 d.p.root, .int .i64 d.p.deep, .int .i64 d.p.most, .int .i64 (5), .slice (some ⟨b, off, none⟩) ls.length scap, .int .u64 (0), .int .i64 (0), .int .i64 d.start, .int .i64 d.at_, .int .i64 (f.number), .int .i64 (f.kind), .bool (f.rep), .bool (f.packed), .int .i64 (f.msg), .int .i64 (u % 8), .int .i64 d.want, .int .i64 d.utf.want, .int .i64 d.utf.low, .int .i64 d.utf.high, .int .i64 d.end_.kind, .int .i64 d.end_.field, .int .u64 d.end_.bits, .int .i64 d.end_.len, .string d.end_.text, .int .i64 d.end_.code, .int .i64 d.end_.at_, .slice ea ([] : List Ev).length ecap] 88 (0, 0)) := (by rw [← hw8]; apply hset_eq; (repeat (first | (with_reducible exact HB6.out) | (with_reducible apply hset_set))); simp only [List.setIfInBounds_toArray, List.set_cons_zero, List.set_cons_succ]); have hG8 : w6.grownBy w8 (some M) := (by rw [← hw8]; (repeat (with_reducible refine only_cell ?_ _ _)); with_reducible exact only_refl _ _); clear hw8 kM fM hBM; have H8 := Lib.hid (show MachI base w0 w8 M (tagK d f (u % 8) 5) xs ls [] a cap rs (some ⟨b, off, none⟩) scap ea ecap from H6.out.upd hG8 hB8); clear hG8 H6 HB6; have HB8 := Lib.hid hB8; have kM := box_cells hB8; clear hB8; refine wlm M (c1111 (.slice a xs.length cap) (.slice (some ⟨b, off, none⟩) ls.length scap) d.p 5 0 0 d.start d.at_ f (u % 8) d.want d.utf d.end_) (fun j u hj => (kM (0 + j)).trans (by rw [Nat.zero_add, List.getElem?_toArray]; exact pre_at hj)) ?_))
         refine (implTop_any (tagK d f (u % 8) 5) a cap _ xs (some ⟨b, off, none⟩) scap _ ls _ H8.out.sh.shs (lvls_of_own H8.out.lv rfl) rfl rfl hn hm2 hm').mono ?_
         rintro r w10 ⟨rfl, hb10⟩
         rw [htl]
         have H10 := Lib.hid (H8.out.keep hb10); clear H8
         have HB10 := Lib.hid ((hb10.block _ (box_lt HB8.out)).trans HB8.out); clear HB8 kM hb10
         have kM := box_cells HB10.out; have fM := box_frozen HB10.out; have hBM := box_lt HB10.out
         go_wp2_with fail
         refine (implWidthOf_any (u % 8) _).mono ?_
         rintro r _ ⟨rfl, rfl⟩
         rw [HWD.out]
         by_cases ht : l.left < 8
         ·skip
          have eR := Lib.hid (HR.out.symm.trans (tagO_end (k := 5) hok hnb hwk hlast HF.out hnk HKk.out (by rw [htl, HWD.out]; omega)))
          go_wp2_with fail
          refine (fails_any base w0 _ M (tagK d f (u % 8) 5) xs ls [] 9 d.at_ ⟨_, _, _, _, _, _, _, H10.out⟩ (by simp)).mono ?_
          rintro r w7 ⟨rfl, h7⟩
          have H7 := Lib.hid h7; clear h7
          clear kM fM hBM
          go_wp2
          go_end0
          rw [eR.out]
          exact ⟨rfl, H7.out⟩
         ·have eR := Lib.hid (HR.out.symm.trans (tagO_ok (k := 5) hok hnb hwk hlast HF.out hnk HKk.out (by rw [htl, HWD.out]; omega)))
          go_wp2_with fail
          go_end0
          rw [eR.out]
          exact ⟨rfl, _, _, _, _, _, _, _, H10.out⟩
        ·have hv5 : u % 8 = 5 := by simp only [wireOk, Bool.or_eq_true, beq_iff_eq] at hwk; omega
         have hwd : widthOf (u % 8) = 4 := by rw [hv5]; rfl
         have hK : (5 : Int) = if u % 8 = 0 then 3 else if u % 8 = 2 then 4 else 5 := by rw [hv5]; rfl
         have HKk := Lib.hid hK; have HWD := Lib.hid hwd; clear hK hwd
         clear hv5
         go_wp2_with (first | ((with_reducible show wpList _ _ _ (⟨_, Op.load 40 _, _, _, _, _⟩ :: _) _ _); generalize hw8 : World.setCell _ (⟨M, 4, none⟩ : Addr) (.int .i64 5) = w8; have hB8 : w8.heap[M]? = some (.cells #[.slice a xs.length cap, .int .i64 d.p.root, .int .i64 d.p.deep, .int .i64 d.p.most, .int .i64 (5), .slice (some ⟨b, off, none⟩) ls.length scap, .int .u64 (0), .int .i64 (0), .int .i64 d.start, .int .i64 d.at_, .int .i64 (f.number), .int .i64 (f.kind), .bool (f.rep), .bool (f.packed), .int .i64 (f.msg), .int .i64 (u % 8), .int .i64 d.want, .int .i64 d.utf.want, .int .i64 d.utf.low, .int .i64 d.utf.high, .int .i64 d.end_.kind, .int .i64 d.end_.field, .int .u64 d.end_.bits, .int .i64 d.end_.len, .string d.end_.text, .int .i64 d.end_.code, .int .i64 d.end_.at_, .slice ea ([] : List Ev).length ecap] 88 (0, 0)) := (by rw [← hw8]; apply hset_eq; (repeat (first | (with_reducible exact HB6.out) | (with_reducible apply hset_set))); simp only [List.setIfInBounds_toArray, List.set_cons_zero, List.set_cons_succ]); have hG8 : w6.grownBy w8 (some M) := (by rw [← hw8]; (repeat (with_reducible refine only_cell ?_ _ _)); with_reducible exact only_refl _ _); clear hw8 kM fM hBM; have H8 := Lib.hid (show MachI base w0 w8 M (tagK d f (u % 8) 5) xs ls [] a cap rs (some ⟨b, off, none⟩) scap ea ecap from H6.out.upd hG8 hB8); clear hG8 H6 HB6; have HB8 := Lib.hid hB8; have kM := box_cells hB8; clear hB8; refine wlm M (c1111 (.slice a xs.length cap) (.slice (some ⟨b, off, none⟩) ls.length scap) d.p 5 0 0 d.start d.at_ f (u % 8) d.want d.utf d.end_) (fun j u hj => (kM (0 + j)).trans (by rw [Nat.zero_add, List.getElem?_toArray]; exact pre_at hj)) ?_))
         refine (implTop_any (tagK d f (u % 8) 5) a cap _ xs (some ⟨b, off, none⟩) scap _ ls _ H8.out.sh.shs (lvls_of_own H8.out.lv rfl) rfl rfl hn hm2 hm').mono ?_
         rintro r w10 ⟨rfl, hb10⟩
         rw [htl]
         have H10 := Lib.hid (H8.out.keep hb10); clear H8
         have HB10 := Lib.hid ((hb10.block _ (box_lt HB8.out)).trans HB8.out); clear HB8 kM hb10
         have kM := box_cells HB10.out; have fM := box_frozen HB10.out; have hBM := box_lt HB10.out
         go_wp2_with fail
         refine (implWidthOf_any (u % 8) _).mono ?_
         rintro r _ ⟨rfl, rfl⟩
         rw [HWD.out]
         by_cases ht : l.left < 4
         ·skip
          have eR := Lib.hid (HR.out.symm.trans (tagO_end (k := 5) hok hnb hwk hlast HF.out hnk HKk.out (by rw [htl, HWD.out]; omega)))
          go_wp2_with fail
          refine (fails_any base w0 _ M (tagK d f (u % 8) 5) xs ls [] 9 d.at_ ⟨_, _, _, _, _, _, _, H10.out⟩ (by simp)).mono ?_
          rintro r w7 ⟨rfl, h7⟩
          have H7 := Lib.hid h7; clear h7
          clear kM fM hBM
          go_wp2
          go_end0
          rw [eR.out]
          exact ⟨rfl, H7.out⟩
         ·have eR := Lib.hid (HR.out.symm.trans (tagO_ok (k := 5) hok hnb hwk hlast HF.out hnk HKk.out (by rw [htl, HWD.out]; omega)))
          go_wp2_with fail
          go_end0
          rw [eR.out]
          exact ⟨rfl, _, _, _, _, _, _, _, H10.out⟩
     ·go_wp2_with fail
      refine (implAllowed_any f (u % 8) _ hwk).mono ?_
      rintro r w9 ⟨rfl, hb9⟩
      have HB9 := Lib.hid ((hb9.block _ (box_lt HB6.out)).trans HB6.out); clear HB6
      have H9 := Lib.hid (H6.out.keep hb9); clear H6
      have hF9 := (hb9.block _ hBF).trans HF6.out
      clear kF fF hBF HF6 kM fM hBM
      have kF := box_cells hF9; have fF := box_frozen hF9; have hBF := box_lt hF9; clear hF9 hb9
      have kM := box_cells HB9.out; have fM := box_frozen HB9.out; have hBM := box_lt HB9.out
      cases ha : allowed f (u % 8)
      ·skip
       have eR := Lib.hid (HR.out.symm.trans (tagO_kind (xs := xs) hok hnb hwk hlast HF.out hkn ha))
       go_wp2_with fail
       refine (fails_any base w0 _ M (scan0 d) xs ls [] 4 d.start ⟨_, _, _, _, _, _, _, H9.out⟩ (by simp)).mono ?_
       rintro r w7 ⟨rfl, h7⟩
       have H7 := Lib.hid h7; clear h7
       clear kM fM hBM
       go_wp2
       rw [eR.out]
       exact bodyPost_ret (v := .tuple #[]) (results_none rfl _ _ _) rfl ⟨rfl, H7.out⟩
      ·skip
       have hnk : ¬ (kn = true ∧ allowed f (u % 8) = false) := by rw [hkn]; simp [ha]
       by_cases hv0 : u % 8 = 0
       ·have g0 : (u % 8 == 0) = true := by simp; omega
        have hwd : widthOf (u % 8) = 0 := by rw [hv0]; rfl
        have hK : (3 : Int) = if u % 8 = 0 then 3 else if u % 8 = 2 then 4 else 5 := by rw [hv0]; rfl
        have HKk := Lib.hid hK; have HWD := Lib.hid hwd; clear hK hwd
        clear hv0
        go_wp2_with (first | ((with_reducible show wpList _ _ _ (⟨_, Op.load 40 _, _, _, _, _⟩ :: _) _ _); generalize hw8 : World.setCell _ (⟨M, 4, none⟩ : Addr) (.int .i64 3) = w8; have hB8 : w8.heap[M]? = some (.cells #[.slice a xs.length cap, .int .i64 d.p.root, .int .i64 d.p.deep, .int .i64 d.p.most, .int .i64 (3), .slice (some ⟨b, off, none⟩) ls.length scap, .int .u64 (0), .int .i64 (0), .int .i64 d.start, .int .i64 d.at_, .int .i64 (f.number), .int .i64 (f.kind), .bool (f.rep), .bool (f.packed), .int .i64 (f.msg), .int .i64 (u % 8), .int .i64 d.want, .int .i64 d.utf.want, .int .i64 d.utf.low, .int .i64 d.utf.high, .int .i64 d.end_.kind, .int .i64 d.end_.field, .int .u64 d.end_.bits, .int .i64 d.end_.len, .string d.end_.text, .int .i64 d.end_.code, .int .i64 d.end_.at_, .slice ea ([] : List Ev).length ecap] 88 (0, 0)) := (by rw [← hw8]; apply hset_eq; (repeat (first | (with_reducible exact HB9.out) | (with_reducible apply hset_set))); simp only [List.setIfInBounds_toArray, List.set_cons_zero, List.set_cons_succ]); have hG8 : w9.grownBy w8 (some M) := (by rw [← hw8]; (repeat (with_reducible refine only_cell ?_ _ _)); with_reducible exact only_refl _ _); clear hw8 kM fM hBM; have H8 := Lib.hid (show MachI base w0 w8 M (tagK d f (u % 8) 3) xs ls [] a cap rs (some ⟨b, off, none⟩) scap ea ecap from H9.out.upd hG8 hB8); clear hG8 H9 HB9; have HB8 := Lib.hid hB8; have kM := box_cells hB8; clear hB8; refine wlm M (c1111 (.slice a xs.length cap) (.slice (some ⟨b, off, none⟩) ls.length scap) d.p 3 0 0 d.start d.at_ f (u % 8) d.want d.utf d.end_) (fun j u hj => (kM (0 + j)).trans (by rw [Nat.zero_add, List.getElem?_toArray]; exact pre_at hj)) ?_))
        refine (implTop_any (tagK d f (u % 8) 3) a cap _ xs (some ⟨b, off, none⟩) scap _ ls _ H8.out.sh.shs (lvls_of_own H8.out.lv rfl) rfl rfl hn hm2 hm').mono ?_
        rintro r w10 ⟨rfl, hb10⟩
        rw [htl]
        have H10 := Lib.hid (H8.out.keep hb10); clear H8
        have HB10 := Lib.hid ((hb10.block _ (box_lt HB8.out)).trans HB8.out); clear HB8 kM hb10
        have kM := box_cells HB10.out; have fM := box_frozen HB10.out; have hBM := box_lt HB10.out
        go_wp2_with fail
        refine (implWidthOf_any (u % 8) _).mono ?_
        rintro r _ ⟨rfl, rfl⟩
        rw [HWD.out]
        by_cases ht : l.left < 1
        ·skip
         have eR := Lib.hid (HR.out.symm.trans (tagO_end (k := 3) hok hnb hwk hlast HF.out hnk HKk.out (by rw [htl, HWD.out]; omega)))
         go_wp2_with fail
         refine (fails_any base w0 _ M (tagK d f (u % 8) 3) xs ls [] 9 d.at_ ⟨_, _, _, _, _, _, _, H10.out⟩ (by simp)).mono ?_
         rintro r w7 ⟨rfl, h7⟩
         have H7 := Lib.hid h7; clear h7
         clear kM fM hBM
         go_wp2
         go_end0
         rw [eR.out]
         exact ⟨rfl, H7.out⟩
        ·have eR := Lib.hid (HR.out.symm.trans (tagO_ok (k := 3) hok hnb hwk hlast HF.out hnk HKk.out (by rw [htl, HWD.out]; omega)))
         go_wp2_with fail
         go_end0
         rw [eR.out]
         exact ⟨rfl, _, _, _, _, _, _, _, H10.out⟩
       ·by_cases hv2 : u % 8 = 2
        ·have g0 : (u % 8 == 0) = false := by simp; omega
         have g2 : (u % 8 == 2) = true := by simp; omega
         have hwd : widthOf (u % 8) = 0 := by rw [hv2]; rfl
         have hK : (4 : Int) = if u % 8 = 0 then 3 else if u % 8 = 2 then 4 else 5 := by rw [hv2]; rfl
         have HKk := Lib.hid hK; have HWD := Lib.hid hwd; clear hK hwd
         clear hv2
         go_wp2_with (first | ((with_reducible show wpList _ _ _ (⟨_, Op.load 40 _, _, _, _, _⟩ :: _) _ _); generalize hw8 : World.setCell _ (⟨M, 4, none⟩ : Addr) (.int .i64 4) = w8; have hB8 : w8.heap[M]? = some (.cells #[.slice a xs.length cap, .int .i64 d.p.root, .int .i64 d.p.deep, .int .i64 d.p.most, .int .i64 (4), .slice (some ⟨b, off, none⟩) ls.length scap, .int .u64 (0), .int .i64 (0), .int .i64 d.start, .int .i64 d.at_, .int .i64 (f.number), .int .i64 (f.kind), .bool (f.rep), .bool (f.packed), .int .i64 (f.msg), .int .i64 (u % 8), .int .i64 d.want, .int .i64 d.utf.want, .int .i64 d.utf.low, .int .i64 d.utf.high, .int .i64 d.end_.kind, .int .i64 d.end_.field, .int .u64 d.end_.bits, .int .i64 d.end_.len, .string d.end_.text, .int .i64 d.end_.code, .int .i64 d.end_.at_, .slice ea ([] : List Ev).length ecap] 88 (0, 0)) := (by rw [← hw8]; apply hset_eq; (repeat (first | (with_reducible exact HB9.out) | (with_reducible apply hset_set))); simp only [List.setIfInBounds_toArray, List.set_cons_zero, List.set_cons_succ]); have hG8 : w9.grownBy w8 (some M) := (by rw [← hw8]; (repeat (with_reducible refine only_cell ?_ _ _)); with_reducible exact only_refl _ _); clear hw8 kM fM hBM; have H8 := Lib.hid (show MachI base w0 w8 M (tagK d f (u % 8) 4) xs ls [] a cap rs (some ⟨b, off, none⟩) scap ea ecap from H9.out.upd hG8 hB8); clear hG8 H9 HB9; have HB8 := Lib.hid hB8; have kM := box_cells hB8; clear hB8; refine wlm M (c1111 (.slice a xs.length cap) (.slice (some ⟨b, off, none⟩) ls.length scap) d.p 4 0 0 d.start d.at_ f (u % 8) d.want d.utf d.end_) (fun j u hj => (kM (0 + j)).trans (by rw [Nat.zero_add, List.getElem?_toArray]; exact pre_at hj)) ?_))
         refine (implTop_any (tagK d f (u % 8) 4) a cap _ xs (some ⟨b, off, none⟩) scap _ ls _ H8.out.sh.shs (lvls_of_own H8.out.lv rfl) rfl rfl hn hm2 hm').mono ?_
         rintro r w10 ⟨rfl, hb10⟩
         rw [htl]
         have H10 := Lib.hid (H8.out.keep hb10); clear H8
         have HB10 := Lib.hid ((hb10.block _ (box_lt HB8.out)).trans HB8.out); clear HB8 kM hb10
         have kM := box_cells HB10.out; have fM := box_frozen HB10.out; have hBM := box_lt HB10.out
         go_wp2_with fail
         refine (implWidthOf_any (u % 8) _).mono ?_
         rintro r _ ⟨rfl, rfl⟩
         rw [HWD.out]
         by_cases ht : l.left < 1
         ·skip
          have eR := Lib.hid (HR.out.symm.trans (tagO_end (k := 4) hok hnb hwk hlast HF.out hnk HKk.out (by rw [htl, HWD.out]; omega)))
          go_wp2_with fail
          refine (fails_any base w0 _ M (tagK d f (u % 8) 4) xs ls [] 9 d.at_ ⟨_, _, _, _, _, _, _, H10.out⟩ (by simp)).mono ?_
          rintro r w7 ⟨rfl, h7⟩
          have H7 := Lib.hid h7; clear h7
          clear kM fM hBM
          go_wp2
          go_end0
          rw [eR.out]
          exact ⟨rfl, H7.out⟩
         ·have eR := Lib.hid (HR.out.symm.trans (tagO_ok (k := 4) hok hnb hwk hlast HF.out hnk HKk.out (by rw [htl, HWD.out]; omega)))
          go_wp2_with fail
          go_end0
          rw [eR.out]
          exact ⟨rfl, _, _, _, _, _, _, _, H10.out⟩
        ·have g0 : (u % 8 == 0) = false := by simp; omega
         have g2 : (u % 8 == 2) = false := by simp; omega
         by_cases hv1 : u % 8 = 1
         ·skip
          have hwd : widthOf (u % 8) = 8 := by rw [hv1]; rfl
          have hK : (5 : Int) = if u % 8 = 0 then 3 else if u % 8 = 2 then 4 else 5 := by rw [hv1]; rfl
          have HKk := Lib.hid hK; have HWD := Lib.hid hwd; clear hK hwd
          clear hv1
          go_wp2_with (first | ((with_reducible show wpList _ _ _ (⟨_, Op.load 40 _, _, _, _, _⟩ :: _) _ _); generalize hw8 : World.setCell _ (⟨M, 4, none⟩ : Addr) (.int .i64 5) = w8; have hB8 : w8.heap[M]? = some (.cells #[.slice a xs.length cap, .int .i64 d.p.root, .int .i64 d.p.deep, .int .i64 d.p.most, .int .i64 (5), .slice (some ⟨b, off, none⟩) ls.length scap, .int .u64 (0), .int .i64 (0), .int .i64 d.start, .int .i64 d.at_, .int .i64 (f.number), .int .i64 (f.kind), .bool (f.rep), .bool (f.packed), .int .i64 (f.msg), .int .i64 (u % 8), .int .i64 d.want, .int .i64 d.utf.want, .int .i64 d.utf.low, .int .i64 d.utf.high, .int .i64 d.end_.kind, .int .i64 d.end_.field, .int .u64 d.end_.bits, .int .i64 d.end_.len, .string d.end_.text, .int .i64 d.end_.code, .int .i64 d.end_.at_, .slice ea ([] : List Ev).length ecap] 88 (0, 0)) := (by rw [← hw8]; apply hset_eq; (repeat (first | (with_reducible exact HB9.out) | (with_reducible apply hset_set))); simp only [List.setIfInBounds_toArray, List.set_cons_zero, List.set_cons_succ]); have hG8 : w9.grownBy w8 (some M) := (by rw [← hw8]; (repeat (with_reducible refine only_cell ?_ _ _)); with_reducible exact only_refl _ _); clear hw8 kM fM hBM; have H8 := Lib.hid (show MachI base w0 w8 M (tagK d f (u % 8) 5) xs ls [] a cap rs (some ⟨b, off, none⟩) scap ea ecap from H9.out.upd hG8 hB8); clear hG8 H9 HB9; have HB8 := Lib.hid hB8; have kM := box_cells hB8; clear hB8; refine wlm M (c1111 (.slice a xs.length cap) (.slice (some ⟨b, off, none⟩) ls.length scap) d.p 5 0 0 d.start d.at_ f (u % 8) d.want d.utf d.end_) (fun j u hj => (kM (0 + j)).trans (by rw [Nat.zero_add, List.getElem?_toArray]; exact pre_at hj)) ?_))
          refine (implTop_any (tagK d f (u % 8) 5) a cap _ xs (some ⟨b, off, none⟩) scap _ ls _ H8.out.sh.shs (lvls_of_own H8.out.lv rfl) rfl rfl hn hm2 hm').mono ?_
          rintro r w10 ⟨rfl, hb10⟩
          rw [htl]
          have H10 := Lib.hid (H8.out.keep hb10); clear H8
          have HB10 := Lib.hid ((hb10.block _ (box_lt HB8.out)).trans HB8.out); clear HB8 kM hb10
          have kM := box_cells HB10.out; have fM := box_frozen HB10.out; have hBM := box_lt HB10.out
          go_wp2_with fail
          refine (implWidthOf_any (u % 8) _).mono ?_
          rintro r _ ⟨rfl, rfl⟩
          rw [HWD.out]
          by_cases ht : l.left < 8
          ·skip
           have eR := Lib.hid (HR.out.symm.trans (tagO_end (k := 5) hok hnb hwk hlast HF.out hnk HKk.out (by rw [htl, HWD.out]; omega)))
           go_wp2_with fail
           refine (fails_any base w0 _ M (tagK d f (u % 8) 5) xs ls [] 9 d.at_ ⟨_, _, _, _, _, _, _, H10.out⟩ (by simp)).mono ?_
           rintro r w7 ⟨rfl, h7⟩
           have H7 := Lib.hid h7; clear h7
           clear kM fM hBM
           go_wp2
           go_end0
           rw [eR.out]
           exact ⟨rfl, H7.out⟩
          ·have eR := Lib.hid (HR.out.symm.trans (tagO_ok (k := 5) hok hnb hwk hlast HF.out hnk HKk.out (by rw [htl, HWD.out]; omega)))
           go_wp2_with fail
           go_end0
           rw [eR.out]
           exact ⟨rfl, _, _, _, _, _, _, _, H10.out⟩
         ·have hv5 : u % 8 = 5 := by simp only [wireOk, Bool.or_eq_true, beq_iff_eq] at hwk; omega
          have hwd : widthOf (u % 8) = 4 := by rw [hv5]; rfl
          have hK : (5 : Int) = if u % 8 = 0 then 3 else if u % 8 = 2 then 4 else 5 := by rw [hv5]; rfl
          have HKk := Lib.hid hK; have HWD := Lib.hid hwd; clear hK hwd
          clear hv5
          go_wp2_with (first | ((with_reducible show wpList _ _ _ (⟨_, Op.load 40 _, _, _, _, _⟩ :: _) _ _); generalize hw8 : World.setCell _ (⟨M, 4, none⟩ : Addr) (.int .i64 5) = w8; have hB8 : w8.heap[M]? = some (.cells #[.slice a xs.length cap, .int .i64 d.p.root, .int .i64 d.p.deep, .int .i64 d.p.most, .int .i64 (5), .slice (some ⟨b, off, none⟩) ls.length scap, .int .u64 (0), .int .i64 (0), .int .i64 d.start, .int .i64 d.at_, .int .i64 (f.number), .int .i64 (f.kind), .bool (f.rep), .bool (f.packed), .int .i64 (f.msg), .int .i64 (u % 8), .int .i64 d.want, .int .i64 d.utf.want, .int .i64 d.utf.low, .int .i64 d.utf.high, .int .i64 d.end_.kind, .int .i64 d.end_.field, .int .u64 d.end_.bits, .int .i64 d.end_.len, .string d.end_.text, .int .i64 d.end_.code, .int .i64 d.end_.at_, .slice ea ([] : List Ev).length ecap] 88 (0, 0)) := (by rw [← hw8]; apply hset_eq; (repeat (first | (with_reducible exact HB9.out) | (with_reducible apply hset_set))); simp only [List.setIfInBounds_toArray, List.set_cons_zero, List.set_cons_succ]); have hG8 : w9.grownBy w8 (some M) := (by rw [← hw8]; (repeat (with_reducible refine only_cell ?_ _ _)); with_reducible exact only_refl _ _); clear hw8 kM fM hBM; have H8 := Lib.hid (show MachI base w0 w8 M (tagK d f (u % 8) 5) xs ls [] a cap rs (some ⟨b, off, none⟩) scap ea ecap from H9.out.upd hG8 hB8); clear hG8 H9 HB9; have HB8 := Lib.hid hB8; have kM := box_cells hB8; clear hB8; refine wlm M (c1111 (.slice a xs.length cap) (.slice (some ⟨b, off, none⟩) ls.length scap) d.p 5 0 0 d.start d.at_ f (u % 8) d.want d.utf d.end_) (fun j u hj => (kM (0 + j)).trans (by rw [Nat.zero_add, List.getElem?_toArray]; exact pre_at hj)) ?_))
          refine (implTop_any (tagK d f (u % 8) 5) a cap _ xs (some ⟨b, off, none⟩) scap _ ls _ H8.out.sh.shs (lvls_of_own H8.out.lv rfl) rfl rfl hn hm2 hm').mono ?_
          rintro r w10 ⟨rfl, hb10⟩
          rw [htl]
          have H10 := Lib.hid (H8.out.keep hb10); clear H8
          have HB10 := Lib.hid ((hb10.block _ (box_lt HB8.out)).trans HB8.out); clear HB8 kM hb10
          have kM := box_cells HB10.out; have fM := box_frozen HB10.out; have hBM := box_lt HB10.out
          go_wp2_with fail
          refine (implWidthOf_any (u % 8) _).mono ?_
          rintro r _ ⟨rfl, rfl⟩
          rw [HWD.out]
          by_cases ht : l.left < 4
          ·skip
           have eR := Lib.hid (HR.out.symm.trans (tagO_end (k := 5) hok hnb hwk hlast HF.out hnk HKk.out (by rw [htl, HWD.out]; omega)))
           go_wp2_with fail
           refine (fails_any base w0 _ M (tagK d f (u % 8) 5) xs ls [] 9 d.at_ ⟨_, _, _, _, _, _, _, H10.out⟩ (by simp)).mono ?_
           rintro r w7 ⟨rfl, h7⟩
           have H7 := Lib.hid h7; clear h7
           clear kM fM hBM
           go_wp2
           go_end0
           rw [eR.out]
           exact ⟨rfl, H7.out⟩
          ·have eR := Lib.hid (HR.out.symm.trans (tagO_ok (k := 5) hok hnb hwk hlast HF.out hnk HKk.out (by rw [htl, HWD.out]; omega)))
           go_wp2_with fail
           go_end0
           rw [eR.out]
           exact ⟨rfl, _, _, _, _, _, _, _, H10.out⟩
   ·skip
    go_simp
    refine hK.out _ _ (fun _ => hS.alloc _) ?_
    have hS5 := hS.alloc (.cells #[.int .i64 0, .int .i64 0, .bool false, .bool false, .int .i64 0] 34); clear hS; have hS := hS5; clear hS5
    clear hK K
    try simp only [Act.put, List.setIfInBounds_toArray, List.set_cons_zero, List.set_cons_succ]
    refine wpTill_op (i := 22) (by kernel_rfl) rfl (fun K hK => ?_)
    go_simp
    refine (implFieldAt_any a cap _ xs l.msg (u / 8) _ (H2.out.sh.shs.keep (show Below w2.heap.size w2 _ from by exact bl)) rfl hn hm2).mono ?_
    rintro r w5 ⟨rfl, hb5⟩
    rw [← HF.out]
    have hb45 : Below w2.heap.size w2 w5 := by exact bl
    have hz45 := hb45.size
    refine hK.out _ _ (fun _ => hS.below hb5) ?_
    have hS5 := hS.below hb5; clear hS; have hS := hS5; clear hS5
    clear hK K
    try simp only [Act.put, List.setIfInBounds_toArray, List.set_cons_zero, List.set_cons_succ]
    refine tk (i := 23) hS ?_
    refine tk (i := 24) hS ?_
    refine tk (i := 25) hS ?_
    have hF5 := Lib.hid ((hb5.block w2.heap.size (by simp)).trans (hset_new (o := .cells #[.int .i64 0, .int .i64 0, .bool false, .bool false, .int .i64 0] 34) rfl))
    refine wpTill_op (i := 27) (by kernel_rfl) rfl (fun K hK => ?_)
    refine step_store_row rfl 34 (.tmp 7) (.tmp 62) rfl w2.heap.size #[.int .i64 f.number, .int .i64 f.kind, .bool f.rep, .bool f.packed, .int .i64 f.msg] rfl rfl 34 #[.int .i64 0, .int .i64 0, .bool false, .bool false, .int .i64 0] (hF5.out) (by kernel_rfl) rfl (by simp [Value.oneCell']) ?_
    have hS16 := hS.grown (only_rowT _ (w2.heap.size) #[.int .i64 f.number, .int .i64 f.kind, .bool f.rep, .bool f.packed, .int .i64 f.msg]) (by intro q hq; simp only [List.mem_cons, List.not_mem_nil, or_false] at hq; have hx := box_lt HB2.out; rcases hq with rfl | rfl | rfl <;> simp only [ne_eq, Option.some.injEq] <;> omega)
    refine hK.out _ _ (fun _ => hS16) ?_
    clear hK K hS
    try simp only [Act.put, List.setIfInBounds_toArray, List.set_cons_zero, List.set_cons_succ]
    refine wpTill_op (i := 28) (by kernel_rfl) rfl (fun K hK => ?_)
    go_simp
    refine hK.out _ _ (fun e => by cases e) ?_
    clear hK K
    try simp only [Act.put, List.setIfInBounds_toArray, List.set_cons_zero, List.set_cons_succ]
    refine wpTill_done (by kernel_rfl) ?_ _
    obtain ⟨w6, hw6⟩ : ∃ w6, w6 = w5.setRow w2.heap.size #[.int .i64 f.number, .int .i64 f.kind, .bool f.rep, .bool f.packed, .int .i64 f.msg] := ⟨_, rfl⟩
    obtain ⟨F, hF⟩ : ∃ F, F = w2.heap.size := ⟨_, rfl⟩
    have hF6 : w6.heap[F]? = some (.cells #[.int .i64 f.number, .int .i64 f.kind, .bool f.rep, .bool f.packed, .int .i64 f.msg] 34 (0, 0)) := by rw [hw6, hF]; exact hset_row (cs := #[.int .i64 0, .int .i64 0, .bool false, .bool false, .int .i64 0]) (hF5.out)
    have hb26 : Below w2.heap.size w2 w6 := by rw [hw6]; exact bl
    rw [← hw6, ← hF]
    clear hw6 hF hb45
    have hB6 := Lib.hid ((hb26.block _ (box_lt HB2.out)).trans HB2.out)
    have H6 := Lib.hid (H2.out.keep hb26); clear H2 HB2 hb26 hb5
    have HB6 := hB6; clear hB6
    have kF := box_cells hF6; have fF := box_frozen hF6; have hBF := box_lt hF6
    have HF6 := Lib.hid hF6; clear hF6 hlb
    have kM := box_cells HB6.out; have fM := box_frozen HB6.out; have hBM := box_lt HB6.out
    have hFM : F ≠ M := fun e => by subst e; exact absurd (typed_ne HF6.out HB6.out) (by decide)
    go_wp2_with fail
    refine (implWireOk_any (u % 8) _).mono ?_
    rintro r _ ⟨rfl, rfl⟩
    cases hwk : wireOk (u % 8)
    ·skip
     have eR := Lib.hid (HR.out.symm.trans (tagO_wire (xs := xs) hok hnb hwk))
     go_wp2_with fail
     refine (fails_any base w0 _ M (scan0 d) xs ls [] 3 d.start ⟨_, _, _, _, _, _, _, H6.out⟩ (by simp)).mono ?_
     rintro r w7 ⟨rfl, h7⟩
     have H7 := Lib.hid h7; clear h7
     clear kM fM hBM
     go_wp2
     rw [eR.out]
     exact bodyPost_ret (v := .tuple #[]) (results_none rfl _ _ _) rfl ⟨rfl, H7.out⟩
    ·cases hkn : kn
     ·skip
      have hnk : ¬ (kn = true ∧ allowed f (u % 8) = false) := by rw [hkn]; simp
      by_cases hv0 : u % 8 = 0
      ·have g0 : (u % 8 == 0) = true := by simp; omega
       have hwd : widthOf (u % 8) = 0 := by rw [hv0]; rfl
       have hK : (3 : Int) = if u % 8 = 0 then 3 else if u % 8 = 2 then 4 else 5 := by rw [hv0]; rfl
       have HKk := Lib.hid hK; have HWD := Lib.hid hwd; clear hK hwd
       clear hv0
       go_wp2_with (first | ((with_reducible show wpList _ _ _ (⟨_, Op.load 40 _, _, _, _, _⟩ :: _) _ _); generalize hw8 : World.setCell _ (⟨M, 4, none⟩ : Addr) (.int .i64 3) = w8; have hB8 : w8.heap[M]? = some (.cells #[.slice a xs.length cap, .int .i64 d.p.root, .int .i64 d.p.deep, .int .i64 d.p.most, .int .i64 (3), .slice (some ⟨b, off, none⟩) ls.length scap, .int .u64 (0), .int .i64 (0), .int .i64 d.start, .int .i64 d.at_, .int .i64 (f.number), .int .i64 (f.kind), .bool (f.rep), .bool (f.packed), .int .i64 (f.msg), .int .i64 (u % 8), .int .i64 d.want, .int .i64 d.utf.want, .int .i64 d.utf.low, .int .i64 d.utf.high, .int .i64 d.end_.kind, .int .i64 d.end_.field, .int .u64 d.end_.bits, .int .i64 d.end_.len, .string d.end_.text, .int .i64 d.end_.code, .int .i64 d.end_.at_, .slice ea ([] : List Ev).length ecap] 88 (0, 0)) := (by rw [← hw8]; apply hset_eq; (repeat (first | (with_reducible exact HB6.out) | (with_reducible apply hset_set))); simp only [List.setIfInBounds_toArray, List.set_cons_zero, List.set_cons_succ]); have hG8 : w6.grownBy w8 (some M) := (by rw [← hw8]; (repeat (with_reducible refine only_cell ?_ _ _)); with_reducible exact only_refl _ _); clear hw8 kM fM hBM; have H8 := Lib.hid (show MachI base w0 w8 M (tagK d f (u % 8) 3) xs ls [] a cap rs (some ⟨b, off, none⟩) scap ea ecap from H6.out.upd hG8 hB8); clear hG8 H6 HB6; have HB8 := Lib.hid hB8; have kM := box_cells hB8; clear hB8; refine wlm M (c1111 (.slice a xs.length cap) (.slice (some ⟨b, off, none⟩) ls.length scap) d.p 3 0 0 d.start d.at_ f (u % 8) d.want d.utf d.end_) (fun j u hj => (kM (0 + j)).trans (by rw [Nat.zero_add, List.getElem?_toArray]; exact pre_at hj)) ?_))
       refine (implTop_any (tagK d f (u % 8) 3) a cap _ xs (some ⟨b, off, none⟩) scap _ ls _ H8.out.sh.shs (lvls_of_own H8.out.lv rfl) rfl rfl hn hm2 hm').mono ?_
       rintro r w10 ⟨rfl, hb10⟩
       rw [htl]
       have H10 := Lib.hid (H8.out.keep hb10); clear H8
       have HB10 := Lib.hid ((hb10.block _ (box_lt HB8.out)).trans HB8.out); clear HB8 kM hb10
       have kM := box_cells HB10.out; have fM := box_frozen HB10.out; have hBM := box_lt HB10.out
       go_wp2_with fail
       refine (implWidthOf_any (u % 8) _).mono ?_
       rintro r _ ⟨rfl, rfl⟩
       rw [HWD.out]
       by_cases ht : l.left < 1
       ·skip
        have eR := Lib.hid (HR.out.symm.trans (tagO_end (k := 3) hok hnb hwk hlast HF.out hnk HKk.out (by rw [htl, HWD.out]; omega)))
        go_wp2_with fail
        refine (fails_any base w0 _ M (tagK d f (u % 8) 3) xs ls [] 9 d.at_ ⟨_, _, _, _, _, _, _, H10.out⟩ (by simp)).mono ?_
        rintro r w7 ⟨rfl, h7⟩
        have H7 := Lib.hid h7; clear h7
        clear kM fM hBM
        go_wp2
        go_end0
        rw [eR.out]
        exact ⟨rfl, H7.out⟩
       ·have eR := Lib.hid (HR.out.symm.trans (tagO_ok (k := 3) hok hnb hwk hlast HF.out hnk HKk.out (by rw [htl, HWD.out]; omega)))
        go_wp2_with fail
        go_end0
        rw [eR.out]
        exact ⟨rfl, _, _, _, _, _, _, _, H10.out⟩
      ·by_cases hv2 : u % 8 = 2
       ·have g0 : (u % 8 == 0) = false := by simp; omega
        have g2 : (u % 8 == 2) = true := by simp; omega
        have hwd : widthOf (u % 8) = 0 := by rw [hv2]; rfl
        have hK : (4 : Int) = if u % 8 = 0 then 3 else if u % 8 = 2 then 4 else 5 := by rw [hv2]; rfl
        have HKk := Lib.hid hK; have HWD := Lib.hid hwd; clear hK hwd
        clear hv2
        go_wp2_with (first | ((with_reducible show wpList _ _ _ (⟨_, Op.load 40 _, _, _, _, _⟩ :: _) _ _); generalize hw8 : World.setCell _ (⟨M, 4, none⟩ : Addr) (.int .i64 4) = w8; have hB8 : w8.heap[M]? = some (.cells #[.slice a xs.length cap, .int .i64 d.p.root, .int .i64 d.p.deep, .int .i64 d.p.most, .int .i64 (4), .slice (some ⟨b, off, none⟩) ls.length scap, .int .u64 (0), .int .i64 (0), .int .i64 d.start, .int .i64 d.at_, .int .i64 (f.number), .int .i64 (f.kind), .bool (f.rep), .bool (f.packed), .int .i64 (f.msg), .int .i64 (u % 8), .int .i64 d.want, .int .i64 d.utf.want, .int .i64 d.utf.low, .int .i64 d.utf.high, .int .i64 d.end_.kind, .int .i64 d.end_.field, .int .u64 d.end_.bits, .int .i64 d.end_.len, .string d.end_.text, .int .i64 d.end_.code, .int .i64 d.end_.at_, .slice ea ([] : List Ev).length ecap] 88 (0, 0)) := (by rw [← hw8]; apply hset_eq; (repeat (first | (with_reducible exact HB6.out) | (with_reducible apply hset_set))); simp only [List.setIfInBounds_toArray, List.set_cons_zero, List.set_cons_succ]); have hG8 : w6.grownBy w8 (some M) := (by rw [← hw8]; (repeat (with_reducible refine only_cell ?_ _ _)); with_reducible exact only_refl _ _); clear hw8 kM fM hBM; have H8 := Lib.hid (show MachI base w0 w8 M (tagK d f (u % 8) 4) xs ls [] a cap rs (some ⟨b, off, none⟩) scap ea ecap from H6.out.upd hG8 hB8); clear hG8 H6 HB6; have HB8 := Lib.hid hB8; have kM := box_cells hB8; clear hB8; refine wlm M (c1111 (.slice a xs.length cap) (.slice (some ⟨b, off, none⟩) ls.length scap) d.p 4 0 0 d.start d.at_ f (u % 8) d.want d.utf d.end_) (fun j u hj => (kM (0 + j)).trans (by rw [Nat.zero_add, List.getElem?_toArray]; exact pre_at hj)) ?_))
        refine (implTop_any (tagK d f (u % 8) 4) a cap _ xs (some ⟨b, off, none⟩) scap _ ls _ H8.out.sh.shs (lvls_of_own H8.out.lv rfl) rfl rfl hn hm2 hm').mono ?_
        rintro r w10 ⟨rfl, hb10⟩
        rw [htl]
        have H10 := Lib.hid (H8.out.keep hb10); clear H8
        have HB10 := Lib.hid ((hb10.block _ (box_lt HB8.out)).trans HB8.out); clear HB8 kM hb10
        have kM := box_cells HB10.out; have fM := box_frozen HB10.out; have hBM := box_lt HB10.out
        go_wp2_with fail
        refine (implWidthOf_any (u % 8) _).mono ?_
        rintro r _ ⟨rfl, rfl⟩
        rw [HWD.out]
        by_cases ht : l.left < 1
        ·skip
         have eR := Lib.hid (HR.out.symm.trans (tagO_end (k := 4) hok hnb hwk hlast HF.out hnk HKk.out (by rw [htl, HWD.out]; omega)))
         go_wp2_with fail
         refine (fails_any base w0 _ M (tagK d f (u % 8) 4) xs ls [] 9 d.at_ ⟨_, _, _, _, _, _, _, H10.out⟩ (by simp)).mono ?_
         rintro r w7 ⟨rfl, h7⟩
         have H7 := Lib.hid h7; clear h7
         clear kM fM hBM
         go_wp2
         go_end0
         rw [eR.out]
         exact ⟨rfl, H7.out⟩
        ·have eR := Lib.hid (HR.out.symm.trans (tagO_ok (k := 4) hok hnb hwk hlast HF.out hnk HKk.out (by rw [htl, HWD.out]; omega)))
         go_wp2_with fail
         go_end0
         rw [eR.out]
         exact ⟨rfl, _, _, _, _, _, _, _, H10.out⟩
       ·have g0 : (u % 8 == 0) = false := by simp; omega
        have g2 : (u % 8 == 2) = false := by simp; omega
        by_cases hv1 : u % 8 = 1
        ·skip
         have hwd : widthOf (u % 8) = 8 := by rw [hv1]; rfl
         have hK : (5 : Int) = if u % 8 = 0 then 3 else if u % 8 = 2 then 4 else 5 := by rw [hv1]; rfl
         have HKk := Lib.hid hK; have HWD := Lib.hid hwd; clear hK hwd
         clear hv1
         go_wp2_with (first | ((with_reducible show wpList _ _ _ (⟨_, Op.load 40 _, _, _, _, _⟩ :: _) _ _); generalize hw8 : World.setCell _ (⟨M, 4, none⟩ : Addr) (.int .i64 5) = w8; have hB8 : w8.heap[M]? = some (.cells #[.slice a xs.length cap, .int .i64 d.p.root, .int .i64 d.p.deep, .int .i64 d.p.most, .int .i64 (5), .slice (some ⟨b, off, none⟩) ls.length scap, .int .u64 (0), .int .i64 (0), .int .i64 d.start, .int .i64 d.at_, .int .i64 (f.number), .int .i64 (f.kind), .bool (f.rep), .bool (f.packed), .int .i64 (f.msg), .int .i64 (u % 8), .int .i64 d.want, .int .i64 d.utf.want, .int .i64 d.utf.low, .int .i64 d.utf.high, .int .i64 d.end_.kind, .int .i64 d.end_.field, .int .u64 d.end_.bits, .int .i64 d.end_.len, .string d.end_.text, .int .i64 d.end_.code, .int .i64 d.end_.at_, .slice ea ([] : List Ev).length ecap] 88 (0, 0)) := (by rw [← hw8]; apply hset_eq; (repeat (first | (with_reducible exact HB6.out) | (with_reducible apply hset_set))); simp only [List.setIfInBounds_toArray, List.set_cons_zero, List.set_cons_succ]); have hG8 : w6.grownBy w8 (some M) := (by rw [← hw8]; (repeat (with_reducible refine only_cell ?_ _ _)); with_reducible exact only_refl _ _); clear hw8 kM fM hBM; have H8 := Lib.hid (show MachI base w0 w8 M (tagK d f (u % 8) 5) xs ls [] a cap rs (some ⟨b, off, none⟩) scap ea ecap from H6.out.upd hG8 hB8); clear hG8 H6 HB6; have HB8 := Lib.hid hB8; have kM := box_cells hB8; clear hB8; refine wlm M (c1111 (.slice a xs.length cap) (.slice (some ⟨b, off, none⟩) ls.length scap) d.p 5 0 0 d.start d.at_ f (u % 8) d.want d.utf d.end_) (fun j u hj => (kM (0 + j)).trans (by rw [Nat.zero_add, List.getElem?_toArray]; exact pre_at hj)) ?_))
         refine (implTop_any (tagK d f (u % 8) 5) a cap _ xs (some ⟨b, off, none⟩) scap _ ls _ H8.out.sh.shs (lvls_of_own H8.out.lv rfl) rfl rfl hn hm2 hm').mono ?_
         rintro r w10 ⟨rfl, hb10⟩
         rw [htl]
         have H10 := Lib.hid (H8.out.keep hb10); clear H8
         have HB10 := Lib.hid ((hb10.block _ (box_lt HB8.out)).trans HB8.out); clear HB8 kM hb10
         have kM := box_cells HB10.out; have fM := box_frozen HB10.out; have hBM := box_lt HB10.out
         go_wp2_with fail
         refine (implWidthOf_any (u % 8) _).mono ?_
         rintro r _ ⟨rfl, rfl⟩
         rw [HWD.out]
         by_cases ht : l.left < 8
         ·skip
          have eR := Lib.hid (HR.out.symm.trans (tagO_end (k := 5) hok hnb hwk hlast HF.out hnk HKk.out (by rw [htl, HWD.out]; omega)))
          go_wp2_with fail
          refine (fails_any base w0 _ M (tagK d f (u % 8) 5) xs ls [] 9 d.at_ ⟨_, _, _, _, _, _, _, H10.out⟩ (by simp)).mono ?_
          rintro r w7 ⟨rfl, h7⟩
          have H7 := Lib.hid h7; clear h7
          clear kM fM hBM
          go_wp2
          go_end0
          rw [eR.out]
          exact ⟨rfl, H7.out⟩
         ·have eR := Lib.hid (HR.out.symm.trans (tagO_ok (k := 5) hok hnb hwk hlast HF.out hnk HKk.out (by rw [htl, HWD.out]; omega)))
          go_wp2_with fail
          go_end0
          rw [eR.out]
          exact ⟨rfl, _, _, _, _, _, _, _, H10.out⟩
        ·have hv5 : u % 8 = 5 := by simp only [wireOk, Bool.or_eq_true, beq_iff_eq] at hwk; omega
         have hwd : widthOf (u % 8) = 4 := by rw [hv5]; rfl
         have hK : (5 : Int) = if u % 8 = 0 then 3 else if u % 8 = 2 then 4 else 5 := by rw [hv5]; rfl
         have HKk := Lib.hid hK; have HWD := Lib.hid hwd; clear hK hwd
         clear hv5
         go_wp2_with (first | ((with_reducible show wpList _ _ _ (⟨_, Op.load 40 _, _, _, _, _⟩ :: _) _ _); generalize hw8 : World.setCell _ (⟨M, 4, none⟩ : Addr) (.int .i64 5) = w8; have hB8 : w8.heap[M]? = some (.cells #[.slice a xs.length cap, .int .i64 d.p.root, .int .i64 d.p.deep, .int .i64 d.p.most, .int .i64 (5), .slice (some ⟨b, off, none⟩) ls.length scap, .int .u64 (0), .int .i64 (0), .int .i64 d.start, .int .i64 d.at_, .int .i64 (f.number), .int .i64 (f.kind), .bool (f.rep), .bool (f.packed), .int .i64 (f.msg), .int .i64 (u % 8), .int .i64 d.want, .int .i64 d.utf.want, .int .i64 d.utf.low, .int .i64 d.utf.high, .int .i64 d.end_.kind, .int .i64 d.end_.field, .int .u64 d.end_.bits, .int .i64 d.end_.len, .string d.end_.text, .int .i64 d.end_.code, .int .i64 d.end_.at_, .slice ea ([] : List Ev).length ecap] 88 (0, 0)) := (by rw [← hw8]; apply hset_eq; (repeat (first | (with_reducible exact HB6.out) | (with_reducible apply hset_set))); simp only [List.setIfInBounds_toArray, List.set_cons_zero, List.set_cons_succ]); have hG8 : w6.grownBy w8 (some M) := (by rw [← hw8]; (repeat (with_reducible refine only_cell ?_ _ _)); with_reducible exact only_refl _ _); clear hw8 kM fM hBM; have H8 := Lib.hid (show MachI base w0 w8 M (tagK d f (u % 8) 5) xs ls [] a cap rs (some ⟨b, off, none⟩) scap ea ecap from H6.out.upd hG8 hB8); clear hG8 H6 HB6; have HB8 := Lib.hid hB8; have kM := box_cells hB8; clear hB8; refine wlm M (c1111 (.slice a xs.length cap) (.slice (some ⟨b, off, none⟩) ls.length scap) d.p 5 0 0 d.start d.at_ f (u % 8) d.want d.utf d.end_) (fun j u hj => (kM (0 + j)).trans (by rw [Nat.zero_add, List.getElem?_toArray]; exact pre_at hj)) ?_))
         refine (implTop_any (tagK d f (u % 8) 5) a cap _ xs (some ⟨b, off, none⟩) scap _ ls _ H8.out.sh.shs (lvls_of_own H8.out.lv rfl) rfl rfl hn hm2 hm').mono ?_
         rintro r w10 ⟨rfl, hb10⟩
         rw [htl]
         have H10 := Lib.hid (H8.out.keep hb10); clear H8
         have HB10 := Lib.hid ((hb10.block _ (box_lt HB8.out)).trans HB8.out); clear HB8 kM hb10
         have kM := box_cells HB10.out; have fM := box_frozen HB10.out; have hBM := box_lt HB10.out
         go_wp2_with fail
         refine (implWidthOf_any (u % 8) _).mono ?_
         rintro r _ ⟨rfl, rfl⟩
         rw [HWD.out]
         by_cases ht : l.left < 4
         ·skip
          have eR := Lib.hid (HR.out.symm.trans (tagO_end (k := 5) hok hnb hwk hlast HF.out hnk HKk.out (by rw [htl, HWD.out]; omega)))
          go_wp2_with fail
          refine (fails_any base w0 _ M (tagK d f (u % 8) 5) xs ls [] 9 d.at_ ⟨_, _, _, _, _, _, _, H10.out⟩ (by simp)).mono ?_
          rintro r w7 ⟨rfl, h7⟩
          have H7 := Lib.hid h7; clear h7
          clear kM fM hBM
          go_wp2
          go_end0
          rw [eR.out]
          exact ⟨rfl, H7.out⟩
         ·have eR := Lib.hid (HR.out.symm.trans (tagO_ok (k := 5) hok hnb hwk hlast HF.out hnk HKk.out (by rw [htl, HWD.out]; omega)))
          go_wp2_with fail
          go_end0
          rw [eR.out]
          exact ⟨rfl, _, _, _, _, _, _, _, H10.out⟩
     ·go_wp2_with fail
      refine (implAllowed_any f (u % 8) _ hwk).mono ?_
      rintro r w9 ⟨rfl, hb9⟩
      have HB9 := Lib.hid ((hb9.block _ (box_lt HB6.out)).trans HB6.out); clear HB6
      have H9 := Lib.hid (H6.out.keep hb9); clear H6
      have hF9 := (hb9.block _ hBF).trans HF6.out
      clear kF fF hBF HF6 kM fM hBM
      have kF := box_cells hF9; have fF := box_frozen hF9; have hBF := box_lt hF9; clear hF9 hb9
      have kM := box_cells HB9.out; have fM := box_frozen HB9.out; have hBM := box_lt HB9.out
      cases ha : allowed f (u % 8)
      ·skip
       have eR := Lib.hid (HR.out.symm.trans (tagO_kind (xs := xs) hok hnb hwk hlast HF.out hkn ha))
       go_wp2_with fail
       refine (fails_any base w0 _ M (scan0 d) xs ls [] 4 d.start ⟨_, _, _, _, _, _, _, H9.out⟩ (by simp)).mono ?_
       rintro r w7 ⟨rfl, h7⟩
       have H7 := Lib.hid h7; clear h7
       clear kM fM hBM
       go_wp2
       rw [eR.out]
       exact bodyPost_ret (v := .tuple #[]) (results_none rfl _ _ _) rfl ⟨rfl, H7.out⟩
      ·skip
       have hnk : ¬ (kn = true ∧ allowed f (u % 8) = false) := by rw [hkn]; simp [ha]
       by_cases hv0 : u % 8 = 0
       ·have g0 : (u % 8 == 0) = true := by simp; omega
        have hwd : widthOf (u % 8) = 0 := by rw [hv0]; rfl
        have hK : (3 : Int) = if u % 8 = 0 then 3 else if u % 8 = 2 then 4 else 5 := by rw [hv0]; rfl
        have HKk := Lib.hid hK; have HWD := Lib.hid hwd; clear hK hwd
        clear hv0
        go_wp2_with (first | ((with_reducible show wpList _ _ _ (⟨_, Op.load 40 _, _, _, _, _⟩ :: _) _ _); generalize hw8 : World.setCell _ (⟨M, 4, none⟩ : Addr) (.int .i64 3) = w8; have hB8 : w8.heap[M]? = some (.cells #[.slice a xs.length cap, .int .i64 d.p.root, .int .i64 d.p.deep, .int .i64 d.p.most, .int .i64 (3), .slice (some ⟨b, off, none⟩) ls.length scap, .int .u64 (0), .int .i64 (0), .int .i64 d.start, .int .i64 d.at_, .int .i64 (f.number), .int .i64 (f.kind), .bool (f.rep), .bool (f.packed), .int .i64 (f.msg), .int .i64 (u % 8), .int .i64 d.want, .int .i64 d.utf.want, .int .i64 d.utf.low, .int .i64 d.utf.high, .int .i64 d.end_.kind, .int .i64 d.end_.field, .int .u64 d.end_.bits, .int .i64 d.end_.len, .string d.end_.text, .int .i64 d.end_.code, .int .i64 d.end_.at_, .slice ea ([] : List Ev).length ecap] 88 (0, 0)) := (by rw [← hw8]; apply hset_eq; (repeat (first | (with_reducible exact HB9.out) | (with_reducible apply hset_set))); simp only [List.setIfInBounds_toArray, List.set_cons_zero, List.set_cons_succ]); have hG8 : w9.grownBy w8 (some M) := (by rw [← hw8]; (repeat (with_reducible refine only_cell ?_ _ _)); with_reducible exact only_refl _ _); clear hw8 kM fM hBM; have H8 := Lib.hid (show MachI base w0 w8 M (tagK d f (u % 8) 3) xs ls [] a cap rs (some ⟨b, off, none⟩) scap ea ecap from H9.out.upd hG8 hB8); clear hG8 H9 HB9; have HB8 := Lib.hid hB8; have kM := box_cells hB8; clear hB8; refine wlm M (c1111 (.slice a xs.length cap) (.slice (some ⟨b, off, none⟩) ls.length scap) d.p 3 0 0 d.start d.at_ f (u % 8) d.want d.utf d.end_) (fun j u hj => (kM (0 + j)).trans (by rw [Nat.zero_add, List.getElem?_toArray]; exact pre_at hj)) ?_))
        refine (implTop_any (tagK d f (u % 8) 3) a cap _ xs (some ⟨b, off, none⟩) scap _ ls _ H8.out.sh.shs (lvls_of_own H8.out.lv rfl) rfl rfl hn hm2 hm').mono ?_
        rintro r w10 ⟨rfl, hb10⟩
        rw [htl]
        have H10 := Lib.hid (H8.out.keep hb10); clear H8
        have HB10 := Lib.hid ((hb10.block _ (box_lt HB8.out)).trans HB8.out); clear HB8 kM hb10
        have kM := box_cells HB10.out; have fM := box_frozen HB10.out; have hBM := box_lt HB10.out
        go_wp2_with fail
        refine (implWidthOf_any (u % 8) _).mono ?_
        rintro r _ ⟨rfl, rfl⟩
        rw [HWD.out]
        by_cases ht : l.left < 1
        ·skip
         have eR := Lib.hid (HR.out.symm.trans (tagO_end (k := 3) hok hnb hwk hlast HF.out hnk HKk.out (by rw [htl, HWD.out]; omega)))
         go_wp2_with fail
         refine (fails_any base w0 _ M (tagK d f (u % 8) 3) xs ls [] 9 d.at_ ⟨_, _, _, _, _, _, _, H10.out⟩ (by simp)).mono ?_
         rintro r w7 ⟨rfl, h7⟩
         have H7 := Lib.hid h7; clear h7
         clear kM fM hBM
         go_wp2
         go_end0
         rw [eR.out]
         exact ⟨rfl, H7.out⟩
        ·have eR := Lib.hid (HR.out.symm.trans (tagO_ok (k := 3) hok hnb hwk hlast HF.out hnk HKk.out (by rw [htl, HWD.out]; omega)))
         go_wp2_with fail
         go_end0
         rw [eR.out]
         exact ⟨rfl, _, _, _, _, _, _, _, H10.out⟩
       ·by_cases hv2 : u % 8 = 2
        ·have g0 : (u % 8 == 0) = false := by simp; omega
         have g2 : (u % 8 == 2) = true := by simp; omega
         have hwd : widthOf (u % 8) = 0 := by rw [hv2]; rfl
         have hK : (4 : Int) = if u % 8 = 0 then 3 else if u % 8 = 2 then 4 else 5 := by rw [hv2]; rfl
         have HKk := Lib.hid hK; have HWD := Lib.hid hwd; clear hK hwd
         clear hv2
         go_wp2_with (first | ((with_reducible show wpList _ _ _ (⟨_, Op.load 40 _, _, _, _, _⟩ :: _) _ _); generalize hw8 : World.setCell _ (⟨M, 4, none⟩ : Addr) (.int .i64 4) = w8; have hB8 : w8.heap[M]? = some (.cells #[.slice a xs.length cap, .int .i64 d.p.root, .int .i64 d.p.deep, .int .i64 d.p.most, .int .i64 (4), .slice (some ⟨b, off, none⟩) ls.length scap, .int .u64 (0), .int .i64 (0), .int .i64 d.start, .int .i64 d.at_, .int .i64 (f.number), .int .i64 (f.kind), .bool (f.rep), .bool (f.packed), .int .i64 (f.msg), .int .i64 (u % 8), .int .i64 d.want, .int .i64 d.utf.want, .int .i64 d.utf.low, .int .i64 d.utf.high, .int .i64 d.end_.kind, .int .i64 d.end_.field, .int .u64 d.end_.bits, .int .i64 d.end_.len, .string d.end_.text, .int .i64 d.end_.code, .int .i64 d.end_.at_, .slice ea ([] : List Ev).length ecap] 88 (0, 0)) := (by rw [← hw8]; apply hset_eq; (repeat (first | (with_reducible exact HB9.out) | (with_reducible apply hset_set))); simp only [List.setIfInBounds_toArray, List.set_cons_zero, List.set_cons_succ]); have hG8 : w9.grownBy w8 (some M) := (by rw [← hw8]; (repeat (with_reducible refine only_cell ?_ _ _)); with_reducible exact only_refl _ _); clear hw8 kM fM hBM; have H8 := Lib.hid (show MachI base w0 w8 M (tagK d f (u % 8) 4) xs ls [] a cap rs (some ⟨b, off, none⟩) scap ea ecap from H9.out.upd hG8 hB8); clear hG8 H9 HB9; have HB8 := Lib.hid hB8; have kM := box_cells hB8; clear hB8; refine wlm M (c1111 (.slice a xs.length cap) (.slice (some ⟨b, off, none⟩) ls.length scap) d.p 4 0 0 d.start d.at_ f (u % 8) d.want d.utf d.end_) (fun j u hj => (kM (0 + j)).trans (by rw [Nat.zero_add, List.getElem?_toArray]; exact pre_at hj)) ?_))
         refine (implTop_any (tagK d f (u % 8) 4) a cap _ xs (some ⟨b, off, none⟩) scap _ ls _ H8.out.sh.shs (lvls_of_own H8.out.lv rfl) rfl rfl hn hm2 hm').mono ?_
         rintro r w10 ⟨rfl, hb10⟩
         rw [htl]
         have H10 := Lib.hid (H8.out.keep hb10); clear H8
         have HB10 := Lib.hid ((hb10.block _ (box_lt HB8.out)).trans HB8.out); clear HB8 kM hb10
         have kM := box_cells HB10.out; have fM := box_frozen HB10.out; have hBM := box_lt HB10.out
         go_wp2_with fail
         refine (implWidthOf_any (u % 8) _).mono ?_
         rintro r _ ⟨rfl, rfl⟩
         rw [HWD.out]
         by_cases ht : l.left < 1
         ·skip
          have eR := Lib.hid (HR.out.symm.trans (tagO_end (k := 4) hok hnb hwk hlast HF.out hnk HKk.out (by rw [htl, HWD.out]; omega)))
          go_wp2_with fail
          refine (fails_any base w0 _ M (tagK d f (u % 8) 4) xs ls [] 9 d.at_ ⟨_, _, _, _, _, _, _, H10.out⟩ (by simp)).mono ?_
          rintro r w7 ⟨rfl, h7⟩
          have H7 := Lib.hid h7; clear h7
          clear kM fM hBM
          go_wp2
          go_end0
          rw [eR.out]
          exact ⟨rfl, H7.out⟩
         ·have eR := Lib.hid (HR.out.symm.trans (tagO_ok (k := 4) hok hnb hwk hlast HF.out hnk HKk.out (by rw [htl, HWD.out]; omega)))
          go_wp2_with fail
          go_end0
          rw [eR.out]
          exact ⟨rfl, _, _, _, _, _, _, _, H10.out⟩
        ·have g0 : (u % 8 == 0) = false := by simp; omega
         have g2 : (u % 8 == 2) = false := by simp; omega
         by_cases hv1 : u % 8 = 1
         ·skip
          have hwd : widthOf (u % 8) = 8 := by rw [hv1]; rfl
          have hK : (5 : Int) = if u % 8 = 0 then 3 else if u % 8 = 2 then 4 else 5 := by rw [hv1]; rfl
          have HKk := Lib.hid hK; have HWD := Lib.hid hwd; clear hK hwd
          clear hv1
          go_wp2_with (first | ((with_reducible show wpList _ _ _ (⟨_, Op.load 40 _, _, _, _, _⟩ :: _) _ _); generalize hw8 : World.setCell _ (⟨M, 4, none⟩ : Addr) (.int .i64 5) = w8; have hB8 : w8.heap[M]? = some (.cells #[.slice a xs.length cap, .int .i64 d.p.root, .int .i64 d.p.deep, .int .i64 d.p.most, .int .i64 (5), .slice (some ⟨b, off, none⟩) ls.length scap, .int .u64 (0), .int .i64 (0), .int .i64 d.start, .int .i64 d.at_, .int .i64 (f.number), .int .i64 (f.kind), .bool (f.rep), .bool (f.packed), .int .i64 (f.msg), .int .i64 (u % 8), .int .i64 d.want, .int .i64 d.utf.want, .int .i64 d.utf.low, .int .i64 d.utf.high, .int .i64 d.end_.kind, .int .i64 d.end_.field, .int .u64 d.end_.bits, .int .i64 d.end_.len, .string d.end_.text, .int .i64 d.end_.code, .int .i64 d.end_.at_, .slice ea ([] : List Ev).length ecap] 88 (0, 0)) := (by rw [← hw8]; apply hset_eq; (repeat (first | (with_reducible exact HB9.out) | (with_reducible apply hset_set))); simp only [List.setIfInBounds_toArray, List.set_cons_zero, List.set_cons_succ]); have hG8 : w9.grownBy w8 (some M) := (by rw [← hw8]; (repeat (with_reducible refine only_cell ?_ _ _)); with_reducible exact only_refl _ _); clear hw8 kM fM hBM; have H8 := Lib.hid (show MachI base w0 w8 M (tagK d f (u % 8) 5) xs ls [] a cap rs (some ⟨b, off, none⟩) scap ea ecap from H9.out.upd hG8 hB8); clear hG8 H9 HB9; have HB8 := Lib.hid hB8; have kM := box_cells hB8; clear hB8; refine wlm M (c1111 (.slice a xs.length cap) (.slice (some ⟨b, off, none⟩) ls.length scap) d.p 5 0 0 d.start d.at_ f (u % 8) d.want d.utf d.end_) (fun j u hj => (kM (0 + j)).trans (by rw [Nat.zero_add, List.getElem?_toArray]; exact pre_at hj)) ?_))
          refine (implTop_any (tagK d f (u % 8) 5) a cap _ xs (some ⟨b, off, none⟩) scap _ ls _ H8.out.sh.shs (lvls_of_own H8.out.lv rfl) rfl rfl hn hm2 hm').mono ?_
          rintro r w10 ⟨rfl, hb10⟩
          rw [htl]
          have H10 := Lib.hid (H8.out.keep hb10); clear H8
          have HB10 := Lib.hid ((hb10.block _ (box_lt HB8.out)).trans HB8.out); clear HB8 kM hb10
          have kM := box_cells HB10.out; have fM := box_frozen HB10.out; have hBM := box_lt HB10.out
          go_wp2_with fail
          refine (implWidthOf_any (u % 8) _).mono ?_
          rintro r _ ⟨rfl, rfl⟩
          rw [HWD.out]
          by_cases ht : l.left < 8
          ·skip
           have eR := Lib.hid (HR.out.symm.trans (tagO_end (k := 5) hok hnb hwk hlast HF.out hnk HKk.out (by rw [htl, HWD.out]; omega)))
           go_wp2_with fail
           refine (fails_any base w0 _ M (tagK d f (u % 8) 5) xs ls [] 9 d.at_ ⟨_, _, _, _, _, _, _, H10.out⟩ (by simp)).mono ?_
           rintro r w7 ⟨rfl, h7⟩
           have H7 := Lib.hid h7; clear h7
           clear kM fM hBM
           go_wp2
           go_end0
           rw [eR.out]
           exact ⟨rfl, H7.out⟩
          ·have eR := Lib.hid (HR.out.symm.trans (tagO_ok (k := 5) hok hnb hwk hlast HF.out hnk HKk.out (by rw [htl, HWD.out]; omega)))
           go_wp2_with fail
           go_end0
           rw [eR.out]
           exact ⟨rfl, _, _, _, _, _, _, _, H10.out⟩
         ·have hv5 : u % 8 = 5 := by simp only [wireOk, Bool.or_eq_true, beq_iff_eq] at hwk; omega
          have hwd : widthOf (u % 8) = 4 := by rw [hv5]; rfl
          have hK : (5 : Int) = if u % 8 = 0 then 3 else if u % 8 = 2 then 4 else 5 := by rw [hv5]; rfl
          have HKk := Lib.hid hK; have HWD := Lib.hid hwd; clear hK hwd
          clear hv5
          go_wp2_with (first | ((with_reducible show wpList _ _ _ (⟨_, Op.load 40 _, _, _, _, _⟩ :: _) _ _); generalize hw8 : World.setCell _ (⟨M, 4, none⟩ : Addr) (.int .i64 5) = w8; have hB8 : w8.heap[M]? = some (.cells #[.slice a xs.length cap, .int .i64 d.p.root, .int .i64 d.p.deep, .int .i64 d.p.most, .int .i64 (5), .slice (some ⟨b, off, none⟩) ls.length scap, .int .u64 (0), .int .i64 (0), .int .i64 d.start, .int .i64 d.at_, .int .i64 (f.number), .int .i64 (f.kind), .bool (f.rep), .bool (f.packed), .int .i64 (f.msg), .int .i64 (u % 8), .int .i64 d.want, .int .i64 d.utf.want, .int .i64 d.utf.low, .int .i64 d.utf.high, .int .i64 d.end_.kind, .int .i64 d.end_.field, .int .u64 d.end_.bits, .int .i64 d.end_.len, .string d.end_.text, .int .i64 d.end_.code, .int .i64 d.end_.at_, .slice ea ([] : List Ev).length ecap] 88 (0, 0)) := (by rw [← hw8]; apply hset_eq; (repeat (first | (with_reducible exact HB9.out) | (with_reducible apply hset_set))); simp only [List.setIfInBounds_toArray, List.set_cons_zero, List.set_cons_succ]); have hG8 : w9.grownBy w8 (some M) := (by rw [← hw8]; (repeat (with_reducible refine only_cell ?_ _ _)); with_reducible exact only_refl _ _); clear hw8 kM fM hBM; have H8 := Lib.hid (show MachI base w0 w8 M (tagK d f (u % 8) 5) xs ls [] a cap rs (some ⟨b, off, none⟩) scap ea ecap from H9.out.upd hG8 hB8); clear hG8 H9 HB9; have HB8 := Lib.hid hB8; have kM := box_cells hB8; clear hB8; refine wlm M (c1111 (.slice a xs.length cap) (.slice (some ⟨b, off, none⟩) ls.length scap) d.p 5 0 0 d.start d.at_ f (u % 8) d.want d.utf d.end_) (fun j u hj => (kM (0 + j)).trans (by rw [Nat.zero_add, List.getElem?_toArray]; exact pre_at hj)) ?_))
          refine (implTop_any (tagK d f (u % 8) 5) a cap _ xs (some ⟨b, off, none⟩) scap _ ls _ H8.out.sh.shs (lvls_of_own H8.out.lv rfl) rfl rfl hn hm2 hm').mono ?_
          rintro r w10 ⟨rfl, hb10⟩
          rw [htl]
          have H10 := Lib.hid (H8.out.keep hb10); clear H8
          have HB10 := Lib.hid ((hb10.block _ (box_lt HB8.out)).trans HB8.out); clear HB8 kM hb10
          have kM := box_cells HB10.out; have fM := box_frozen HB10.out; have hBM := box_lt HB10.out
          go_wp2_with fail
          refine (implWidthOf_any (u % 8) _).mono ?_
          rintro r _ ⟨rfl, rfl⟩
          rw [HWD.out]
          by_cases ht : l.left < 4
          ·skip
           have eR := Lib.hid (HR.out.symm.trans (tagO_end (k := 5) hok hnb hwk hlast HF.out hnk HKk.out (by rw [htl, HWD.out]; omega)))
           go_wp2_with fail
           refine (fails_any base w0 _ M (tagK d f (u % 8) 5) xs ls [] 9 d.at_ ⟨_, _, _, _, _, _, _, H10.out⟩ (by simp)).mono ?_
           rintro r w7 ⟨rfl, h7⟩
           have H7 := Lib.hid h7; clear h7
           clear kM fM hBM
           go_wp2
           go_end0
           rw [eR.out]
           exact ⟨rfl, H7.out⟩
          ·have eR := Lib.hid (HR.out.symm.trans (tagO_ok (k := 5) hok hnb hwk hlast HF.out hnk HKk.out (by rw [htl, HWD.out]; omega)))
           go_wp2_with fail
           go_end0
           rw [eR.out]
           exact ⟨rfl, _, _, _, _, _, _, _, H10.out⟩
set_option maxHeartbeats 1000000 in
theorem tag1_any (base : Nat) (w0 w : World) (M : Nat) (d : Dc) (xs : List Shp) (ls : List Lvl) (C : Nat) (u : Int) (hm : Mach base w0 w M d xs ls []) (hn : xs.length ≤ 1048576) (hm2 : fldSum xs ≤ 1048576) (hm' : ls.length ≤ 1048576) (hok : lvOk d xs ls = true) (hu : (Lit.int .u64 u).wf = true) (hC : w.cell? ⟨C, 0, none⟩ = some (.int .u64 u)) :
  Calls Tryz.prog 57 #[.pointer (some ⟨M, 0, none⟩), .pointer (some ⟨C, 0, none⟩)] w fun r w' => r = .returned (.tuple #[]) ∧ Mach base w0 w' M (tagO d xs ls u).1 xs (tagO d xs ls u).2.1 (tagO d xs ls u).2.2 := by
 go_enter Tryz.func57, Tryz.ntmps57
 go_wp2_with fail
 refine (tag_any base w0 w M d xs ls u hm hn hm2 hm' hok hu).mono ?_
 rintro r w3 ⟨rfl, h3⟩
 have H3 := Lib.hid h3; clear h3
 go_wp2
 go_end0
 exact ⟨rfl, H3.out⟩
set_option maxRecDepth 100000 in
set_option maxHeartbeats 1000000 in
theorem implTag_any (d : Dc) (a : Option Addr) (cap : Nat) (xs : List Shp) (sa : Option Addr) (scap : Nat) (ls : List Lvl) (u : Int) (w : World) (h : ShsC w a xs) (h' : Lvls w sa ls) (hn : xs.length ≤ 1048576) (hm : fldSum xs ≤ 1048576) (hm' : ls.length ≤ 1048576) (hnil : sa = none → scap = 0) (hu : (Lit.int .u64 u).wf = true) :
  Calls Tryz.prog 23 #[d.val (.slice a xs.length cap) (.slice sa ls.length scap), .int .u64 u] w (FreshDE w 77 34 67 38 xs (tagO d xs ls u)) := by
 have HSs := Lib.hid h; clear h
 have HSl := Lib.hid h'; clear h'
 have hF := enter_of Tryz.func57 (by kernel_rfl) (by kernel_rfl)
 obtain ⟨O, hO⟩ : ∃ O, tagO d xs ls u = O := ⟨_, rfl⟩
 rw [hO]
 go_enter Tryz.func23, Tryz.ntmps23
 go_wp2_with (first | (refine wlm w.heap.size (Dc.cl d (.slice a xs.length cap) (.slice sa ls.length scap)) (range_of_box (t := 40) (hset_alloc (hset_alloc (hset_new rfl)))) ?_))
 refine (on_any d a cap xs sa scap ls 57 #[.pointer (some ⟨w.heap.size + 1, 0, none⟩)] O _ (HSs.out.keep bl) (Sl.keep HSl.out bl) hn hm hm' hnil hF ?_ ?_).mono ?_
 ·intro hl base w0 w1 M hb hbase hbz hmach
  obtain ⟨a1, cap1, rs1, sa1, scap1, ea1, ecap1, hI⟩ := hmach
  have hbl := hI.bel
  simp only [World.size_alloc] at hbase
  have hC : w1.cell? ⟨w.heap.size + 1, 0, none⟩ = some (.int .u64 u) := (hbl.cell (p := ⟨w.heap.size + 1, 0, none⟩) (by simp only; omega)).trans ((hb.cell (p := ⟨w.heap.size + 1, 0, none⟩) (by simp only [World.size_alloc]; omega)).trans (box_cells (hset_alloc (hset_new (by simp))) 0))
  have h0 := tag1_any base w0 w1 M d xs ls (w.heap.size + 1) u ⟨a1, cap1, rs1, sa1, scap1, ea1, ecap1, hI⟩ hn hm hm' hl hu hC
  rw [hO] at h0
  exact h0
 ·intro hl
  rw [← hO]; exact tagO_no hl
 rintro r w2 ⟨a2, cap2, rs2, sa2, scap2, ea2, ecap2, rfl, ho2, hp2, he2, hb2⟩
 have hz2 := hb2.size
 simp only [World.size_alloc] at hz2
 obtain ⟨e, ms, es⟩ := O
 have HR := Lib.hid ((hb2.block (w.heap.size + 1 + 1) (by simp)).trans (hset_new (by simp)))
 have hbw : Below w.heap.size w w2 := by exact bl
 have hs4 : w.heap.size + 1 + 1 + 1 ≤ w2.heap.size := hz2
 have P1 := Lib.hid (OwnShs.le ho2 (show w.heap.size + 1 + 1 + 1 ≤ _ by simp)); clear ho2
 have P2 := Lib.hid (owns_le hp2 (show w.heap.size + 1 + 1 + 1 ≤ _ by simp)); clear hp2
 have P3 := Lib.hid (owns_le he2 (show w.heap.size + 1 + 1 + 1 ≤ _ by simp)); clear he2 hb2
 go_wp2_with (first | (refine wsq (w.heap.size + 1 + 1) (Dc.cl e (.slice a2 xs.length cap2) (.slice sa2 ms.length scap2)).toArray HR.out (one_Dec _ _ _ _ _ _ _) ?_))
 refine finDE (w := w) (R := w.heap.size + 1 + 1) (base := w.heap.size + 1 + 1 + 1) (e := e) (ms := ms) (es := es) (rs := rs2) (a := a2) (cap := cap2) (sa := sa2) (scap := scap2) (ea := ea2) (ecap := ecap2) Tryz.results23 rfl rfl ?_ ?_ ?_ ?_ ?_ (by omega)
 ·exact hset_row (cs := dz0.toArray) HR.out
 ·refine OwnShs.setRow P1.out ?_ _; omega
 ·refine owns_setRow P2.out ?_ _; omega
 ·refine owns_setRow P3.out ?_ _; omega
 ·exact bl
end Go.Proofs.YtabdjimjelfbfaaGreat

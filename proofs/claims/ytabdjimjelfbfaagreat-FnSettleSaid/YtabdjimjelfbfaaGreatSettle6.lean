/- Texts that FnSettle leans on, part 6. (Put together by wip/tools/bundle.py.) -/
import Derived.Test.YtabdjimjelfbfaaGreatSettle1
import Derived.Test.YtabdjimjelfbfaaGreatSettle2
import Derived.Test.YtabdjimjelfbfaaGreatSettle3
import Derived.Test.YtabdjimjelfbfaaGreatSettle4
namespace Go.Proofs.YtabdjimjelfbfaaGreat
set_option linter.unusedSimpArgs false
set_option linter.unusedVariables false
open Go.ChangeShapes Go.WideShapes Go.ChangeAt Go.RowKit Go.BigFrame
theorem own_lecap {w : World} {base n cap size : Nat} {t : TypeId} {a : Option Addr} {L : List Value} (h : w.ownsRow base t size (.slice a n cap) n L) : n ≤ cap := by
 rcases h.2 with ⟨e, h0⟩ | ⟨g, c, cur, e, _, _, hc, _⟩
 ·simp only [Value.slice.injEq] at e; omega
 ·simp only [Value.slice.injEq] at e; omega
theorem own_pop {w : World} {base m cap : Nat} {t : TypeId} {a : Option Addr} {ls : List Lvl} (h : w.ownsRow base t 2 (.slice a (m + 1) cap) (m + 1) (ls.flatMap Lvl.cs)) (hl : ls.length = m + 1) : w.ownsRow base t 2 (.slice a m cap) m (ls.dropLast.flatMap Lvl.cs) := by
 refine ⟨by rw [flatMap_len lvl_len]; simp [hl], ?_⟩
 rcases h.2 with ⟨e, h0⟩ | ⟨g, c, cur, e, h1, h2, hc, h3, h4, h5⟩
 ·omega
 ·simp only [Value.slice.injEq] at e
  obtain ⟨e1, _, e3⟩ := e
  subst e1; subst e3
  refine .inr ⟨g, cap, cur, rfl, h1, h2, by omega, h3, h4, ?_⟩
  have h6 : (ls.flatMap Lvl.cs) = ls.dropLast.flatMap Lvl.cs ++ (ls.drop m).flatMap Lvl.cs := by
   rw [← List.flatMap_append, List.dropLast_eq_take, hl, Nat.add_sub_cancel, List.take_append_drop]
  have h7 : cur.toList.take (m * 2) = (cur.toList.take ((m + 1) * 2)).take (m * 2) := by rw [List.take_take]; congr 1; omega
  rw [h7, h5, h6]
  have h8 : (ls.dropLast.flatMap Lvl.cs).length = m * 2 := by rw [flatMap_len lvl_len]; simp [hl]
  rw [← h8, List.take_left]
theorem MachI.pop {base M m : Nat} {w0 w w' : World} {d : Dc} {xs : List Shp} {ls : List Lvl} {es : List Ev} {a sa ea : Option Addr} {cap scap ecap : Nat} {rs : List ShR}
  (h : MachI base w0 w M d xs ls es a cap rs sa scap ea ecap) (hl : ls.length = m + 1) (hg : w.grownBy w' (some M))
  (hb : w'.heap[M]? = some (.cells #[.slice a xs.length cap, .int .i64 d.p.root, .int .i64 d.p.deep, .int .i64 d.p.most, .int .i64 d.mode, .slice sa m scap, .int .u64 d.bits, .int .i64 d.have_, .int .i64 d.start, .int .i64 d.at_, .int .i64 d.field.number, .int .i64 d.field.kind, .bool d.field.rep, .bool d.field.packed, .int .i64 d.field.msg, .int .i64 d.wire, .int .i64 d.want, .int .i64 d.utf.want, .int .i64 d.utf.low, .int .i64 d.utf.high, .int .i64 d.end_.kind, .int .i64 d.end_.field, .int .u64 d.end_.bits, .int .i64 d.end_.len, .string d.end_.text, .int .i64 d.end_.code, .int .i64 d.end_.at_, .slice ea es.length ecap] 88 (0, 0))) : MachI base w0 w' M d xs ls.dropLast es a cap rs sa scap ea ecap where
 box := by rw [hb]; simp [hl]
 sh := h.sh.keepBy hg (other_box h.box (by decide)) (other_box h.box (by decide))
 lv := by
  have h0 := owns_keep h.lv hg (other_box h.box (by decide))
  rw [hl] at h0
  have h1 := own_pop h0 hl
  simpa [hl] using h1
 ev := owns_keep h.ev hg (other_box h.box (by decide))
 bel := h.below' hg (fun g e => by obtain rfl := Option.some.inj e; exact h.le)
 le := h.le
 bz := Nat.le_trans h.bz hg.size
section
variable {d : Dc} {ls : List Lvl}
theorem closeS_utf (h6 : d.mode = 6) (hw : d.want < 1) (hu : 0 < d.utf.want) : closeS d ls = some (failD d 5 d.at_, ls, [failE 5 d.at_]) := by unfold closeS; rw [if_pos ⟨h6, hw⟩, if_pos hu]
theorem closeS_shut (h6 : d.mode = 6) (hw : d.want < 1) (hu : ¬ 0 < d.utf.want) : closeS d ls = some (shutD d, ls, [evK 5]) := by unfold closeS; rw [if_pos ⟨h6, hw⟩, if_neg hu]
theorem closeS_m0 (h6 : ¬ d.mode = 6) (h7 : d.mode = 7 ∨ d.mode = 8 ∧ d.have_ = 0) (hw : d.want < 1) : closeS d ls = some (mode0 d 2, ls, []) := by unfold closeS; rw [if_neg (fun h => h6 h.1), if_pos ⟨h7, hw⟩]
theorem closeS_one (h2 : d.mode = 2) (hh : d.have_ = 0) (ht : topL ls = 0) (hl : ls.length = 1) : closeS d ls = some (modeD d 1, [], [evK 8]) := by
 unfold closeS; rw [if_neg (by omega), if_neg (by omega), if_pos ⟨h2, hh, by omega, ht⟩, if_pos hl]
theorem closeS_up (h2 : d.mode = 2) (hh : d.have_ = 0) (ht : topL ls = 0) (hl : 1 < ls.length) : closeS d ls = some (d, ls.dropLast, [evK 7]) := by
 unfold closeS; rw [if_neg (by omega), if_neg (by omega), if_pos ⟨h2, hh, by omega, ht⟩, if_neg (by omega)]
theorem closeS_none (h1 : ¬ (d.mode = 6 ∧ d.want < 1)) (h2 : ¬ ((d.mode = 7 ∨ d.mode = 8 ∧ d.have_ = 0) ∧ d.want < 1)) (h3 : ¬ (d.mode = 2 ∧ d.have_ = 0 ∧ 0 < ls.length ∧ topL ls = 0)) : closeS d ls = none := by
 unfold closeS; rw [if_neg h1, if_neg h2, if_neg h3]
end
set_option maxRecDepth 100000 in
set_option maxHeartbeats 6000000 in
theorem close_any (base : Nat) (w0 w : World) (M : Nat) (d : Dc) (xs : List Shp) (ls : List Lvl) (es : List Ev) (hm : Mach base w0 w M d xs ls es) (hes : es.length ≤ 1048576) (hn : xs.length ≤ 1048576) (hm2 : fldSum xs ≤ 1048576) (hm' : ls.length ≤ 1048576) :
  Calls Tryz.prog 86 #[.pointer (some ⟨M, 0, none⟩)] w fun r w' => (closeS d ls = none ∧ r = .returned (.bool false) ∧ Mach base w0 w' M d xs ls es) ∨ ∃ d' ls' fs, closeS d ls = some (d', ls', fs) ∧ r = .returned (.bool true) ∧ Mach base w0 w' M d' xs ls' (es ++ fs) := by
 obtain ⟨a, cap, rs, sa, scap, ea, ecap, hm⟩ := hm
 have HM := Lib.hid hm; clear hm
 have kM := box_cells HM.out.box; have fM := box_frozen HM.out.box; have hBM := HM.out.lt
 go_enter Tryz.func86, Tryz.ntmps86
 by_cases hall : ¬ d.mode = 6 ∧ ¬ d.mode = 7 ∧ ¬ d.mode = 8 ∧ d.mode = 2 ∧ d.have_ = 0 ∧ 0 < ls.length
 ·obtain ⟨h6, h7, h8, h2, hh, hl⟩ := hall
  have g6 : (d.mode == 6) = false := by simp [h6]
  have g7 : (d.mode == 7) = false := by simp [h7]
  have g8 : (d.mode == 8) = false := by simp [h8]
  have g2 : (d.mode == 2) = true := by simp [h2]
  have gh : (d.have_ == 0) = true := by simp [hh]
  have H2m := Lib.hid h2; clear h2
  have HHh := Lib.hid hh; clear hh
  have hlI : (0 : Int) < (ls.length : Int) := by omega
  have hlD : decide ((0 : Int) < (ls.length : Int)) = true := by simp; omega
  go_wp2_with (first | ((with_reducible show wpList _ _ _ (⟨_, Op.load 40 _, _, _, _, _⟩ :: _) _ _); refine wlw M (Dc.cl d (.slice a xs.length cap) (.slice sa ls.length scap)) (fun j u hj => (kM (0 + j)).trans (by rw [Nat.zero_add, List.getElem?_toArray]; exact pre_at hj)) ?_))
  refine (implTop_any d a cap _ xs sa scap _ ls _ HM.out.sh.shs (lvls_of_own HM.out.lv rfl) rfl rfl hn hm2 hm').mono ?_
  rintro r w1 ⟨rfl, hb1⟩
  have H1 := Lib.hid (HM.out.keep hb1); clear hb1 kM fM hBM HM
  have HM := H1; clear H1
  have kM := box_cells HM.out.box; have fM := box_frozen HM.out.box; have hBM := HM.out.lt
  by_cases ht : topL ls = 0
  ·obtain ⟨m, hml⟩ : ∃ m, ls.length = m + 1 := ⟨ls.length - 1, by omega⟩
   have hcap : ls.length ≤ scap := own_lecap HM.out.lv
   rw [hml] at hcap kM
   have c5 : w1.cell? ⟨M, 5, none⟩ = some (.slice sa (m + 1) scap) := kM 5
   have hmw : IntKind.i64.wrap (m : Int) = m := IntWalk.i64_in _ (by omega)
   have hms : (m : Int) ≤ (scap : Int) := by omega
   have hm0 : (0 : Int) ≤ (m : Int) := by omega
   have hdec : decide (m = 0) = (m == 0) := rfl
   go_wp2_with fail
   refine wp_region_till (Cells [(⟨M, 5, none⟩, .slice sa (m + 1) scap)]) (fun i => decide (17 ≤ i)) (by kernel_rfl) ?_
   have hS : Cells [(⟨M, 5, none⟩, .slice sa (m + 1) scap)] w1.drew := cells_mk c5 (cells_no _)
   refine tk (i := 0) hS ?_
   refine tk (i := 1) hS ?_
   refine tk (i := 2) hS ?_
   refine tk (i := 3) hS ?_
   refine tk (i := 4) hS ?_
   refine tk (i := 5) hS ?_
   refine tk (i := 6) hS ?_
   refine tk (i := 7) hS ?_
   refine tk (i := 8) hS ?_
   refine tk (i := 9) hS ?_
   refine tk (i := 10) hS ?_
   refine tk (i := 11) hS ?_
   refine tk (i := 12) hS ?_
   refine wpTill_take (i := 13) (v := ?vq) rfl (by kernel_rfl) (by kernel_rfl) (by kernel_rfl) (by kernel_rfl) (fun _ _ _ h => h) (Or.inl ⟨by rfl, ?yq⟩) hS ?rq
   case yq => (intro wq hq; (try simp only [cells_cons, cells_nil, and_true] at hq); go_simp; with_reducible rfl)
   try simp only [List.getElem_toArray, List.getElem_cons_succ, List.getElem_cons_zero, Act.put, List.setIfInBounds_toArray, List.set_cons_zero, List.set_cons_succ]
   refine wpTill_op (i := 14) (by kernel_rfl) rfl (fun K hK => ?_)
   go_simp
   refine hK.out _ _ (fun _ => hS) ?_
   clear hK K
   try simp only [List.getElem_toArray, List.getElem_cons_succ, List.getElem_cons_zero, Act.put, List.setIfInBounds_toArray, List.set_cons_zero, List.set_cons_succ]
   refine wpTill_op (i := 15) (by kernel_rfl) rfl (fun K hK => ?_)
   go_simp
   refine hK.out _ _ (fun _ => hS) ?_
   clear hK K
   try simp only [List.getElem_toArray, List.getElem_cons_succ, List.getElem_cons_zero, Act.put, List.setIfInBounds_toArray, List.set_cons_zero, List.set_cons_succ]
   refine wpTill_op (i := 16) (by kernel_rfl) rfl (fun K hK => ?_)
   go_simp
   refine hK.out _ _ (fun _ => hS) ?_
   clear hK K
   try simp only [List.getElem_toArray, List.getElem_cons_succ, List.getElem_cons_zero, Act.put, List.setIfInBounds_toArray, List.set_cons_zero, List.set_cons_succ]
   refine wpTill_op (i := 17) (by kernel_rfl) rfl (fun K hK => ?_)
   go_simp
   refine hK.out _ _ (fun e => by cases e) ?_
   clear hK K
   refine wpTill_done (by kernel_rfl) ?_ _
   generalize hw2 : World.drew (World.setCell _ (⟨M, 5, none⟩ : Addr) (.slice sa m scap)) = w2
   have hB2 : w2.heap[M]? = some (.cells #[.slice a xs.length cap, .int .i64 d.p.root, .int .i64 d.p.deep, .int .i64 d.p.most, .int .i64 d.mode, .slice sa m scap, .int .u64 d.bits, .int .i64 d.have_, .int .i64 d.start, .int .i64 d.at_, .int .i64 d.field.number, .int .i64 d.field.kind, .bool d.field.rep, .bool d.field.packed, .int .i64 d.field.msg, .int .i64 d.wire, .int .i64 d.want, .int .i64 d.utf.want, .int .i64 d.utf.low, .int .i64 d.utf.high, .int .i64 d.end_.kind, .int .i64 d.end_.field, .int .u64 d.end_.bits, .int .i64 d.end_.len, .string d.end_.text, .int .i64 d.end_.code, .int .i64 d.end_.at_, .slice ea es.length ecap] 88 (0, 0)) := by rw [← hw2]; apply hset_eq; (repeat (first | (with_reducible exact HM.out.box) | (with_reducible apply hset_set) | (with_reducible apply hset_drew))); simp only [List.setIfInBounds_toArray, List.set_cons_zero, List.set_cons_succ]
   have hG2 : w1.grownBy w2 (some M) := by rw [← hw2]; (repeat (first | (with_reducible refine only_cell ?_ _ _) | (with_reducible refine only_drew ?_))); with_reducible exact only_refl _ _
   clear hw2
   have H2 := Lib.hid (HM.out.pop hml hG2 hB2)
   clear HM kM fM hBM hS c5 hB2 hG2
   have HM := H2; clear H2
   have kM := box_cells HM.out.box; have fM := box_frozen HM.out.box; have hBM := HM.out.lt
   have hdl : ls.dropLast.length = m := by simp [hml]
   rw [hdl] at kM
   by_cases hm0' : m = 0
   ·subst hm0'
    go_wp2_with fail
    generalize hw3 : World.setCell _ (⟨M, 4, none⟩ : Addr) (.int .i64 1) = w3
    have hB3 : w3.heap[M]? = some (.cells #[.slice a xs.length cap, .int .i64 d.p.root, .int .i64 d.p.deep, .int .i64 d.p.most, .int .i64 (1), .slice sa ls.dropLast.length scap, .int .u64 d.bits, .int .i64 d.have_, .int .i64 d.start, .int .i64 d.at_, .int .i64 d.field.number, .int .i64 d.field.kind, .bool d.field.rep, .bool d.field.packed, .int .i64 d.field.msg, .int .i64 d.wire, .int .i64 d.want, .int .i64 d.utf.want, .int .i64 d.utf.low, .int .i64 d.utf.high, .int .i64 d.end_.kind, .int .i64 d.end_.field, .int .u64 d.end_.bits, .int .i64 d.end_.len, .string d.end_.text, .int .i64 d.end_.code, .int .i64 d.end_.at_, .slice ea es.length ecap] 88 (0, 0)) := by rw [← hw3]; apply hset_eq; (repeat (first | (with_reducible exact HM.out.box) | (with_reducible apply hset_set) | (with_reducible apply hset_drew))); simp only [List.setIfInBounds_toArray, List.set_cons_zero, List.set_cons_succ]
    have hG3 : w2.grownBy w3 (some M) := by rw [← hw3]; (repeat (first | (with_reducible refine only_cell ?_ _ _) | (with_reducible refine only_drew ?_))); with_reducible exact only_refl _ _
    clear hw3
    have H3 : MachI base w0 w3 M (modeD d 1) xs ls.dropLast es a cap rs sa scap ea ecap := HM.out.upd hG3 hB3
    have hln : ls.dropLast = [] := List.eq_nil_of_length_eq_zero hdl
    refine (emit_any base w0 _ M (modeD d 1) xs ls.dropLast es (evK 8) ⟨a, cap, rs, sa, scap, ea, ecap, H3⟩ hes).mono ?_
    rintro r w4 ⟨rfl, h4⟩
    rw [hln] at h4
    have H4 := Lib.hid h4; clear h4 kM fM
    go_wp2
    go_ret
    exact .inr ⟨modeD d 1, [], [evK 8], closeS_one H2m.out HHh.out ht (by omega), rfl, H4.out⟩
   ·have hmp : (0 : Int) < (m : Int) := by omega
    have hmd : decide ((0 : Int) < (m : Int)) = true := by simp; omega
    go_wp2_with fail
    refine (emit_any base w0 _ M d xs ls.dropLast es (evK 7) ⟨a, cap, rs, sa, scap, ea, ecap, HM.out⟩ hes).mono ?_
    rintro r w3 ⟨rfl, h3⟩
    have H3 := Lib.hid h3; clear h3 kM fM
    go_wp2
    go_ret
    exact .inr ⟨d, ls.dropLast, [evK 7], closeS_up H2m.out HHh.out ht (by omega), rfl, H3.out⟩
  ·skip
   go_wp2_with fail
   go_ret
   exact .inl ⟨closeS_none (by omega) (by omega) (by omega), rfl, a, cap, rs, sa, scap, ea, ecap, HM.out⟩
 ·skip
  by_cases h6 : d.mode = 6
  ·by_cases hw : d.want < 1
   ·by_cases hu : 0 < d.utf.want
    ·go_wp2_with fail
     refine (fails_any base w0 _ M d xs ls es 5 d.at_ ⟨a, cap, rs, sa, scap, ea, ecap, HM.out⟩ hes).mono ?_
     rintro r w3 ⟨rfl, h3⟩
     have H3 := Lib.hid h3; clear h3
     clear kM fM
     go_wp2
     go_ret
     exact .inr ⟨failD d 5 d.at_, ls, [failE 5 d.at_], closeS_utf h6 hw hu, rfl, H3.out⟩
    ·go_wp2_with fail
     generalize hw2 : World.setCell _ (⟨M, 16, none⟩ : Addr) (.int .i64 0) = w2
     have hB2 : w2.heap[M]? = some (.cells #[.slice a xs.length cap, .int .i64 d.p.root, .int .i64 d.p.deep, .int .i64 d.p.most, .int .i64 (2), .slice sa ls.length scap, .int .u64 d.bits, .int .i64 d.have_, .int .i64 d.start, .int .i64 d.at_, .int .i64 d.field.number, .int .i64 d.field.kind, .bool d.field.rep, .bool d.field.packed, .int .i64 d.field.msg, .int .i64 d.wire, .int .i64 (0), .int .i64 (0), .int .i64 (0), .int .i64 (0), .int .i64 d.end_.kind, .int .i64 d.end_.field, .int .u64 d.end_.bits, .int .i64 d.end_.len, .string d.end_.text, .int .i64 d.end_.code, .int .i64 d.end_.at_, .slice ea es.length ecap] 88 (0, 0)) := by rw [← hw2]; apply hset_eq; (repeat (first | (with_reducible exact HM.out.box) | (with_reducible apply hset_set))); simp only [List.setIfInBounds_toArray, List.set_cons_zero, List.set_cons_succ]
     have hG2 : w.grownBy w2 (some M) := by rw [← hw2]; (repeat (with_reducible refine only_cell ?_ _ _)); exact only_refl _ _
     clear hw2
     have H2 : MachI base w0 w2 M (shutD d) xs ls es a cap rs sa scap ea ecap := HM.out.upd hG2 hB2
     refine (emit_any base w0 w2 M (shutD d) xs ls es (evK 5) ⟨a, cap, rs, sa, scap, ea, ecap, H2⟩ hes).mono ?_
     rintro r w3 ⟨rfl, h3⟩
     have H3 := Lib.hid h3; clear h3 kM fM
     go_wp2
     go_ret
     exact .inr ⟨shutD d, ls, [evK 5], closeS_shut h6 hw (by omega), rfl, H3.out⟩
   ·go_wp2_with fail
    go_ret
    exact .inl ⟨closeS_none (by omega) (by omega) (by omega), rfl, a, cap, rs, sa, scap, ea, ecap, HM.out⟩
  ·by_cases h7 : d.mode = 7
   ·by_cases hw : d.want < 1
    ·skip
     have H2 : MachI base w0 ((w.setCell ⟨M, 4, none⟩ (.int .i64 2)).setCell ⟨M, 16, none⟩ (.int .i64 0)) M (mode0 d 2) xs ls es a cap rs sa scap ea ecap := HM.out.upd (by (repeat (with_reducible refine only_cell ?_ _ _)); exact only_refl _ _) (by apply hset_eq; (repeat (first | (with_reducible exact HM.out.box) | (with_reducible apply hset_set))); simp only [List.setIfInBounds_toArray, List.set_cons_zero, List.set_cons_succ]; rfl)
     have H3 := Lib.hid H2; clear H2
     go_wp2_with fail
     go_ret
     exact .inr ⟨mode0 d 2, ls, [], closeS_m0 (by omega) (by omega) hw, rfl, a, cap, rs, sa, scap, ea, ecap, by rw [List.append_nil]; exact H3.out⟩
    ·skip
     go_wp2_with fail
     go_ret
     exact .inl ⟨closeS_none (by omega) (by omega) (by omega), rfl, a, cap, rs, sa, scap, ea, ecap, HM.out⟩
   ·by_cases h8 : d.mode = 8
    ·by_cases hh : d.have_ = 0
     ·by_cases hw : d.want < 1
      ·skip
       have H2 : MachI base w0 ((w.setCell ⟨M, 4, none⟩ (.int .i64 2)).setCell ⟨M, 16, none⟩ (.int .i64 0)) M (mode0 d 2) xs ls es a cap rs sa scap ea ecap := HM.out.upd (by (repeat (with_reducible refine only_cell ?_ _ _)); exact only_refl _ _) (by apply hset_eq; (repeat (first | (with_reducible exact HM.out.box) | (with_reducible apply hset_set))); simp only [List.setIfInBounds_toArray, List.set_cons_zero, List.set_cons_succ]; rfl)
       have H3 := Lib.hid H2; clear H2
       go_wp2_with fail
       go_ret
       exact .inr ⟨mode0 d 2, ls, [], closeS_m0 (by omega) (by omega) hw, rfl, a, cap, rs, sa, scap, ea, ecap, by rw [List.append_nil]; exact H3.out⟩
      ·skip
       go_wp2_with fail
       go_ret
       exact .inl ⟨closeS_none (by omega) (by omega) (by omega), rfl, a, cap, rs, sa, scap, ea, ecap, HM.out⟩
     ·skip
      go_wp2_with fail
      go_ret
      exact .inl ⟨closeS_none (by omega) (by omega) (by omega), rfl, a, cap, rs, sa, scap, ea, ecap, HM.out⟩
    ·by_cases h2 : d.mode = 2
     ·by_cases hh : d.have_ = 0
      ·by_cases hl : 0 < ls.length
       ·exact absurd ⟨h6, h7, h8, h2, hh, hl⟩ hall
       ·have hl0 : ls.length = 0 := by omega
        go_wp2_with fail
        go_ret
        exact .inl ⟨closeS_none (by omega) (by omega) (by omega), rfl, a, cap, rs, sa, scap, ea, ecap, HM.out⟩
      ·skip
       go_wp2_with fail
       go_ret
       exact .inl ⟨closeS_none (by omega) (by omega) (by omega), rfl, a, cap, rs, sa, scap, ea, ecap, HM.out⟩
     ·skip
      go_wp2_with fail
      go_ret
      exact .inl ⟨closeS_none (by omega) (by omega) (by omega), rfl, a, cap, rs, sa, scap, ea, ecap, HM.out⟩
theorem enter_of {f : FuncId} {fn : Func} (h : Tryz.prog.funcs[f]? = some fn) (hn : (fn.name == "runtime.NumGoroutine") = false) (hb : fn.body.isNone = false) : ∀ (args : Array Value) (w : World), (callFunc f args).run Tryz.prog w = .ok (.enter f args) w := by
 intro args w
 have h1 : ¬ fn.name = "runtime.NumGoroutine" := by simpa using hn
 have h2 : ¬ fn.body = none := fun e => by rw [e] at hb; simp at hb
 simp [callFunc, go_sem, h, h1, h2]
def msrW (M : Nat) (w : World) : Nat :=
 match w.cell? ⟨M, 4, none⟩, w.cell? ⟨M, 5, none⟩ with
 | some (.int _ m), some (.slice _ n _) => 2 * n + if m = 2 then 0 else if m = 1 then 0 else if m = 9 then 0 else 1
 | _, _ => 0
theorem msrW_eq {base M : Nat} {w0 w : World} {d : Dc} {xs : List Shp} {ls : List Lvl} {es : List Ev} (h : Mach base w0 w M d xs ls es) : msrW M w = msr d ls := by
 obtain ⟨a, cap, rs, sa, scap, ea, ecap, h⟩ := h
 have k := box_cells h.box
 have k4 : w.cell? ⟨M, 4, none⟩ = some (.int .i64 d.mode) := k 4
 have k5 : w.cell? ⟨M, 5, none⟩ = some (.slice sa ls.length scap) := k 5
 unfold msrW
 rw [k4, k5]; rfl
set_option maxRecDepth 100000 in
set_option maxHeartbeats 2000000 in
theorem settle_any (base : Nat) (w0 w : World) (M : Nat) (d : Dc) (xs : List Shp) (ls : List Lvl) (es : List Ev) (hm : Mach base w0 w M d xs ls es) (hes : es.length ≤ 1000000) (hn : xs.length ≤ 1048576) (hm2 : fldSum xs ≤ 1048576) (hm' : ls.length ≤ 1048576) :
  Calls Tryz.prog 47 #[.pointer (some ⟨M, 0, none⟩)] w fun r w' => r = .returned (.tuple #[]) ∧ Mach base w0 w' M (behind es (settleO d xs ls)).1 xs (behind es (settleO d xs ls)).2.1 (behind es (settleO d xs ls)).2.2 := by
 obtain ⟨a, cap, rs, sa, scap, ea, ecap, hm⟩ := hm
 have HM := Lib.hid hm; clear hm
 have kM := box_cells HM.out.box
 obtain ⟨R, hR⟩ : ∃ R, behind es (settleO d xs ls) = R := ⟨_, rfl⟩
 rw [hR]
 go_enter Tryz.func47, Tryz.ntmps47
 go_wp2_with (first | (refine wlm M (Dc.cl d (.slice a xs.length cap) (.slice sa ls.length scap)) (fun j u hj => (kM (0 + j)).trans (by rw [Nat.zero_add, List.getElem?_toArray]; exact pre_at hj)) ?_))
 refine (levelsOk_any d a cap _ xs sa scap _ ls _ HM.out.sh.shs (lvls_of_own HM.out.lv rfl) rfl rfl hn hm2 hm').mono ?_
 rintro r w1 ⟨rfl, hb1⟩
 have H1 := Lib.hid (HM.out.keep hb1); clear hb1 kM HM
 have e0 : (planOk d.p xs && (decide ((ls.length : Int) ≤ d.p.deep) && ls.all (lvlOk xs.length))) = lvOk d xs ls := rfl
 rw [e0]
 cases hl : lvOk d xs ls
 ·have eR : (d, ls, es) = R := by rw [← hR]; simp [settleO, hl, behind]
  go_wp2
  rw [← eR]
  exact bodyPost_ret (v := .tuple #[]) (results_none rfl _ _ _) rfl ⟨rfl, _, _, _, _, _, _, _, H1.out⟩
 ·have eR : behind es (settle d ls) = R := by rw [← hR]; simp [settleO, hl]
  have h8 := lvOk_le hl
  have hms := msr_le d ls
  have HR := Lib.hid eR; clear eR hR
  go_wp2
  go_loopw [9] (fun t wr => ∃ (d' : Dc) (ls' : List Lvl) (fs : List Ev), Mach base w0 wr M d' xs ls' fs ∧ Hid (behind fs (settle d' ls') = R) ∧ fs.length + msr d' ls' ≤ 1000100 ∧ ls'.length ≤ 8) (fun _ wr => msrW M wr)
  case atStart => exact ⟨d, ls, es, ⟨_, _, _, _, _, _, _, H1.out⟩, HR, by omega, h8⟩
  case round =>
   obtain ⟨d1, ls1, fs, hmm, HR1, hle, h81⟩ := hrel
   have hmeas := msrW_eq hmm
   go_wp2_with fail
   refine (close_any base w0 _ M d1 xs ls1 fs hmm (by omega) hn hm2 (by omega)).mono ?_
   rintro r w2 (⟨hc, rfl, h2⟩ | ⟨d2, ls2, gs, hc, rfl, h2⟩)
   ·have eR := settle_end hc HR1.out
    go_wp2
    go_end0
    rw [← eR]
    exact ⟨rfl, h2⟩
   ·have hq1 := closeS_msr hc
    have hq2 := closeS_len hc
    have eR := Lib.hid (settle_step hc HR1.out)
    have hmeas2 := msrW_eq h2
    go_wp2
    go_roundw
    case rel => exact ⟨d2, ls2, fs ++ gs, h2, eR, by rw [List.length_append]; omega, by omega⟩
    case measure => rw [hmeas2, hmeas]; exact hq1
set_option maxRecDepth 100000 in
set_option maxHeartbeats 1000000 in
theorem implSettle_any (d : Dc) (a : Option Addr) (cap : Nat) (xs : List Shp) (sa : Option Addr) (scap : Nat) (ls : List Lvl) (w : World) (h : ShsC w a xs) (h' : Lvls w sa ls) (hn : xs.length ≤ 1048576) (hm : fldSum xs ≤ 1048576) (hm' : ls.length ≤ 1048576) (hnil : sa = none → scap = 0) :
  Calls Tryz.prog 19 #[d.val (.slice a xs.length cap) (.slice sa ls.length scap)] w (FreshDE w 77 34 67 38 xs (settleO d xs ls)) := by
 have HSs := Lib.hid h; clear h
 have HSl := Lib.hid h'; clear h'
 have hF := enter_of Tryz.func47 (by kernel_rfl) (by kernel_rfl)
 obtain ⟨O, hO⟩ : ∃ O, settleO d xs ls = O := ⟨_, rfl⟩
 rw [hO]
 go_enter Tryz.func19, Tryz.ntmps19
 go_wp2_with (first | (refine wlm w.heap.size (Dc.cl d (.slice a xs.length cap) (.slice sa ls.length scap)) (range_of_box (t := 40) (hset_alloc (hset_new rfl))) ?_))
 refine (on_any d a cap xs sa scap ls 47 #[] O _ (HSs.out.keep bl) (Sl.keep HSl.out bl) hn hm hm' hnil hF ?_ ?_).mono ?_
 ·intro hl base w0 w1 M hb hbase hbz hmach
  refine (settle_any base w0 w1 M d xs ls [] hmach (by simp) hn hm hm').mono ?_
  rintro r w3 ⟨rfl, h3⟩
  rw [hO, behind_nil] at h3
  exact ⟨rfl, h3⟩
 ·intro hl
  rw [← hO]; simp [settleO, hl]
 rintro r w2 ⟨a2, cap2, rs2, sa2, scap2, ea2, ecap2, rfl, ho2, hp2, he2, hb2⟩
 have hz2 := hb2.size
 simp only [World.size_alloc] at hz2
 obtain ⟨e, ms, es⟩ := O
 have HR := Lib.hid ((hb2.block (w.heap.size + 1) (by simp)).trans (hset_new (by simp)))
 have hbw : Below w.heap.size w w2 := by exact bl
 have P1 := Lib.hid (OwnShs.le ho2 (show w.heap.size + 1 + 1 ≤ _ by simp)); clear ho2
 have P2 := Lib.hid (owns_le hp2 (show w.heap.size + 1 + 1 ≤ _ by simp)); clear hp2
 have P3 := Lib.hid (owns_le he2 (show w.heap.size + 1 + 1 ≤ _ by simp)); clear he2 hb2
 go_wp2_with (first | (refine wsq (w.heap.size + 1) (Dc.cl e (.slice a2 xs.length cap2) (.slice sa2 ms.length scap2)).toArray HR.out (one_Dec _ _ _ _ _ _ _) ?_))
 refine finDE (w := w) (R := w.heap.size + 1) (base := w.heap.size + 1 + 1) (e := e) (ms := ms) (es := es) (rs := rs2) (a := a2) (cap := cap2) (sa := sa2) (scap := scap2) (ea := ea2) (ecap := ecap2) Tryz.results19 rfl rfl ?_ ?_ ?_ ?_ ?_ (by omega)
 ·exact hset_row (cs := dz0.toArray) HR.out
 ·refine OwnShs.setRow P1.out ?_ _; omega
 ·refine owns_setRow P2.out ?_ _; omega
 ·refine owns_setRow P3.out ?_ _; omega
 ·exact bl
def FreshS (w : World) (B0 : Nat) (TL TE : TypeId) (sh : Value) (O : Outc) (r : Ending) (w' : World) : Prop :=
 ∃ sa scap ea ecap, r = .returned (.tuple #[O.1.val sh (.slice sa O.2.1.length scap), .slice ea O.2.2.length ecap]) ∧ w'.ownsRow B0 TL 2 (.slice sa O.2.1.length scap) O.2.1.length (O.2.1.flatMap Lvl.cs) ∧ w'.ownsRow w.heap.size TE 7 (.slice ea O.2.2.length ecap) O.2.2.length (O.2.2.flatMap Ev.cs) ∧ Below w.heap.size w w'
def msrS (B : Nat) (w : World) : Nat :=
 match w.cell? ⟨B, 4, none⟩, w.cell? ⟨B, 5, none⟩ with
 | some (.int _ m), some (.slice _ n _) => 2 * n + if m = 2 then 0 else if m = 1 then 0 else if m = 9 then 0 else 1
 | _, _ => 0
theorem msrS_eq {B : Nat} {w : World} {d : Dc} {ls : List Lvl} {sh : Value} {sa : Option Addr} {scap : Nat} (k : ∀ i : Nat, w.cell? ⟨B, i, none⟩ = ((Dc.cl d sh (.slice sa ls.length scap)).toArray : Array Value)[i]?) : msrS B w = msr d ls := by
 have k4 : w.cell? ⟨B, 4, none⟩ = some (.int .i64 d.mode) := k 4
 have k5 : w.cell? ⟨B, 5, none⟩ = some (.slice sa ls.length scap) := k 5
 unfold msrS
 rw [k4, k5]; rfl
structure SetI (w : World) (B0 : Nat) (sh : Value) (wr : World) (d : Dc) (ls : List Lvl) (fs : List Ev) (sa : Option Addr) (scap : Nat) (ea : Option Addr) (ecap : Nat) : Prop where
 box : wr.heap[w.heap.size]? = some (.cells (Dc.cl d sh (.slice sa ls.length scap)).toArray 40 (0, 0))
 zero : wr.heap[w.heap.size + 1]? = some (.cells dz0.toArray 40 (0, 0))
 lv : wr.ownsRow B0 67 2 (.slice sa ls.length scap) ls.length (ls.flatMap Lvl.cs)
 ev : wr.ownsRow (w.heap.size + 1 + 1) 38 7 (.slice ea fs.length ecap) fs.length (fs.flatMap Ev.cs)
 bel : Below w.heap.size w wr
 sz : w.heap.size + 1 + 1 ≤ wr.heap.size
section
variable {w wr w' w1 w2 : World} {B0 : Nat} {sh : Value} {d e : Dc} {ls : List Lvl} {fs : List Ev} {sa ea : Option Addr} {scap ecap : Nat}
theorem SetI.upd (h : SetI w B0 sh wr d ls fs sa scap ea ecap) (hg : wr.grownBy w' (some w.heap.size)) (hb : w'.heap[w.heap.size]? = some (.cells (Dc.cl e sh (.slice sa ls.length scap)).toArray 40 (0, 0))) : SetI w B0 sh w' e ls fs sa scap ea ecap where
 box := hb
 zero := (hg.block (w.heap.size + 1) (by have := h.sz; omega) (by simp)).trans h.zero
 lv := owns_keep h.lv hg (other_box h.box (by decide))
 ev := owns_keep h.ev hg (other_box h.box (by decide))
 bel := below_grown h.bel hg (fun g e => by have := Option.some.inj e; omega) (by have := h.sz; omega)
 sz := Nat.le_trans h.sz hg.size
theorem SetI.keep (h : SetI w B0 sh wr d ls fs sa scap ea ecap) (hb : Below wr.heap.size wr w') : SetI w B0 sh w' d ls fs sa scap ea ecap :=
 h.upd (only_below hb) ((hb.block _ (by have := h.sz; omega)).trans h.box)
theorem SetI.tell (h : SetI w B0 sh wr d ls fs sa scap ea ecap) {x : Ev} {ea' : Option Addr} {ecap' : Nat} (h1 : Below wr.heap.size wr w1) (hg : w1.grownBy w2 (Value.slice ea fs.length ecap).ownBlock)
  (ho : w2.ownsRow (w.heap.size + 1 + 1) 38 7 (.slice ea' (fs.length + 1) ecap') (fs.length + 1) (fs.flatMap Ev.cs ++ x.cs)) : SetI w B0 sh w2 d ls (fs ++ [x]) sa scap ea' ecap' := by
 have k := h.keep h1
 have hb : ∀ b cs, w1.heap[b]? = some (.cells cs 40 (0, 0)) → (Value.slice ea fs.length ecap).ownBlock ≠ some b := fun b cs hc e => by
  obtain ⟨cur, hc'⟩ := own_blk k.ev e
  exact absurd (typed_ne hc' hc) (by decide)
 refine ⟨(hg.block _ (by have := k.sz; omega) (fun e => hb _ _ k.box e.symm)).trans k.box, (hg.block _ (by have := k.sz; omega) (fun e => hb _ _ k.zero e.symm)).trans k.zero, owns_keep k.lv hg (other_own k.ev (by decide)), ?_, ?_, Nat.le_trans k.sz hg.size⟩
 ·rw [List.length_append, List.flatMap_append]; simpa using ho
 ·exact below_grown k.bel hg (fun g e => by have := (k.ev.lt g e).1; omega) (by have := k.sz; omega)
theorem only_row (w : World) (b : Nat) (cs : Array Value) : w.grownBy (w.setRow b cs) (some b) := ⟨rfl, rfl, rfl, by simp, fun k _ hk => setRow_other w b k cs (fun e => hk (by rw [e]))⟩
theorem fin_set {F : Func} (hF : F.results = #[.cell 2 40, .tmp 3]) {tm : Array Value} {a : Option Addr} {n cap : Nat} (t1 : tm.getD 2 undef = .pointer (some ⟨w.heap.size + 1, 0, none⟩)) (t2 : tm.getD 3 undef = .slice ea fs.length ecap) (h : SetI w B0 (.slice a n cap) wr d ls fs sa scap ea ecap) :
  bodyPost Tryz.prog F (FreshS w B0 67 38 (.slice a n cap) (e, ls, fs)) .ret ⟨tm, []⟩ (wr.setRow (w.heap.size + 1) (Dc.cl e (.slice a n cap) (.slice sa ls.length scap)).toArray) := by
 have hz := h.sz
 refine bodyPost_ret (results_cell_tmp hF t1 t2 (run_loadVar_mid (wr.setRow (w.heap.size + 1) (Dc.cl e (.slice a n cap) (.slice sa ls.length scap)).toArray) (w.heap.size + 1) 0 40 (Dc.cl e (.slice a n cap) (.slice sa ls.length scap)) _ (range_of_box (t := 40) (hset_row (cs := dz0.toArray) h.zero)) Tryz.underlying40 rfl size_Dec)) rfl ⟨sa, scap, ea, ecap, rfl, ?_, ?_, ?_⟩
 ·exact owns_keep h.lv (only_row _ _ _) (other_box h.zero (by decide))
 ·exact owns_le (owns_setRow h.ev (by omega) _) (by omega)
 ·have := h.bel; exact bl
end
theorem settle_end' {d d' : Dc} {ls ls' : List Lvl} {es fs : List Ev} {R : Outc} (h : closeS d ls = some (d', ls', fs)) (h9 : d'.mode = 9) (hR : behind es (settle d ls) = R) : (d', ls', es ++ fs) = R := by
 have h0 := settle_step h hR
 exact settle_end (closeS_none (by omega) (by omega) (by omega)) h0
theorem own_one {w : World} {base size c : Nat} {t : TypeId} {a : Option Addr} {L : List Value} (h : w.ownsRow base t size (.slice a 1 c) 1 L) : ∃ g, a = some ⟨g, 0, none⟩ := by
 rcases h.2 with ⟨e, h0⟩ | ⟨g, cap, cur, e, _⟩
 ·omega
 ·simp only [Value.slice.injEq] at e; exact ⟨g, e.1⟩
theorem topL_at {ls : List Lvl} {l : Lvl} {m : Nat} (h : ls[m]? = some l) (hl : ls.length = m + 1) : topL ls = l.left := by
 simp only [topL, List.getLast?_eq_getElem?, hl, Nat.add_sub_cancel, h]
theorem take_pre {ls : List Lvl} {m j : Nat} {u : Value} (h : ((ls.take m).flatMap Lvl.cs)[j]? = some u) : (ls.flatMap Lvl.cs)[j]? = some u := by
 have h0 := pre_at (more := (ls.drop m).flatMap Lvl.cs) h
 rwa [← List.flatMap_append, List.take_append_drop] at h0
theorem SetI.setLv {w wr : World} {B0 : Nat} {sh : Value} {d : Dc} {ls ls' : List Lvl} {fs : List Ev} {sa ea sa' : Option Addr} {scap ecap scap' k : Nat} (h : SetI w B0 sh wr d ls fs sa scap ea ecap) (hk : ls'.length = k) (ho : wr.ownsRow B0 67 2 (.slice sa' k scap') k (ls'.flatMap Lvl.cs)) :
  SetI w B0 sh (wr.setCell ⟨w.heap.size, 5, none⟩ (.slice sa' k scap')) d ls' fs sa' scap' ea ecap := by
 subst hk
 have hg := only_set wr w.heap.size 5 (.slice sa' ls'.length scap')
 refine ⟨?_, hset_other h.zero (by simp), owns_keep ho hg (other_box h.box (by decide)), owns_keep h.ev hg (other_box h.box (by decide)), below_grown h.bel hg (fun g e => by have := Option.some.inj e; omega) (by have := h.sz; omega), Nat.le_trans h.sz hg.size⟩
 apply hset_eq (hset_set h.box); simp only [List.setIfInBounds_toArray, List.set_cons_zero, List.set_cons_succ]
set_option maxRecDepth 100000 in
set_option maxHeartbeats 2000000 in
theorem l15Settle_any (d0 : Dc) (a : Option Addr) (cap n : Nat) (sa0 : Option Addr) (scap0 : Nat) (ls0 : List Lvl) (B0 : Nat) (w : World) (ho : w.ownsRow B0 67 2 (.slice sa0 ls0.length scap0) ls0.length (ls0.flatMap Lvl.cs)) (hB0 : B0 ≤ w.heap.size) (h80 : ls0.length ≤ 8) :
  Calls Tryz.prog 48 #[d0.val (.slice a n cap) (.slice sa0 ls0.length scap0)] w (FreshS w B0 67 38 (.slice a n cap) (settle d0 ls0)) := by
 have HO := Lib.hid ho; clear ho
 obtain ⟨R, hR⟩ : ∃ R, settle d0 ls0 = R := ⟨_, rfl⟩
 rw [hR]
 have HR := Lib.hid (show behind [] (settle d0 ls0) = R by rw [behind_nil, hR]); clear hR
 have hms := msr_le d0 ls0
 obtain ⟨i0, hi, hz0, hz1, hz2⟩ := info_parts info_EvM
 obtain ⟨l0, hl0, hl1, hl2, hl3⟩ := info_parts info_Level
 go_enter Tryz.func48, Tryz.ntmps48
 go_wp2_with fail
 go_loopw [4] (fun v wr => ∃ (d : Dc) (ls : List Lvl) (fs : List Ev) (sa : Option Addr) (scap : Nat) (ea : Option Addr) (ecap : Nat), v = .slice ea fs.length ecap ∧ SetI w B0 (.slice a n cap) wr d ls fs sa scap ea ecap ∧ Hid (behind fs (settle d ls) = R) ∧ fs.length + msr d ls ≤ 1000 ∧ ls.length ≤ 8) (fun _ wr => msrS w.heap.size wr)
 case atStart =>
  refine ⟨d0, ls0, [], sa0, scap0, _, _, rfl, ⟨?_, ?_, ?_, ?_, ?_, ?_⟩, HR, ?_, h80⟩
  ·exact hset_alloc (hset_alloc (hset_new rfl))
  ·exact hset_alloc (hset_new (by simp))
  ·exact World.ownsRow.alloc (World.ownsRow.alloc (World.ownsRow.alloc HO.out _) _) _
  ·have h0 := own_built ((w.alloc (.cells (Dc.cl d0 (.slice a n cap) (.slice sa0 ls0.length scap0)).toArray 40)).alloc (.cells dz0.toArray 40)) 38 7
   simp only [World.size_alloc] at h0
   exact h0
  ·exact bl
  ·simp
  ·simp; omega
 case round =>
  obtain ⟨d, ls, fs, sa, scap, ea, ecap, rfl, hst, HR1, hle, h8⟩ := hrel
  have HS := Lib.hid hst; clear hst
  have kA := box_cells HS.out.box; have fA := box_frozen HS.out.box; have hBA := box_lt HS.out.box
  have hmeas := msrS_eq kA
  by_cases h6 : d.mode = 6
  ·by_cases hw : d.want < 1
   ·by_cases hu : 0 < d.utf.want
    ·skip
     have hcl := closeS_utf (ls := ls) h6 hw hu
     have eR := Lib.hid (settle_end' hcl rfl HR1.out)
     have g6 : (d.mode == 6) = true := by simp; omega
     clear h6 hcl
     go_wp2_with (first | ((with_reducible show wpList _ _ _ (⟨_, Op.load 40 _, _, _, _, _⟩ :: _) _ _); refine wlm w.heap.size (Dc.cl d (.slice a n cap) (.slice sa ls.length scap)) (range_of_cells kA) ?_))
     refine (l15Fail_any d a cap n sa scap ls.length 5 d.at_ _).mono ?_
     rintro r w1 ⟨ea1, ecap1, rfl, ho1, hb1⟩
     have H1 := Lib.hid (HS.out.keep hb1)
     have hz9 := H1.out.sz
     clear HS kA fA hBA hb1
     obtain ⟨g1, rfl⟩ := own_one ho1
     have HO1 := Lib.hid ho1; clear ho1
     go_wp2_with (first | ((with_reducible show wpList _ _ _ (⟨_, Op.store 40 _ _, _, _, _, _⟩ :: _) _ _); refine wsr w1.heap.size (c1110 (.slice a n cap) (.slice sa ls.length scap) d.p 9 0 0 d.start d.at_ d.field d.wire 0 d.utf 10 0 0 0 ⟨#[]⟩ 5 d.at_).toArray (hset_new rfl) ?_))
     have hbx : Below w1.heap.size w1 ((w1.alloc (.cells dz0.toArray 40)).setRow w1.heap.size (c1110 (.slice a n cap) (.slice sa ls.length scap) d.p 9 0 0 d.start d.at_ d.field d.wire 0 d.utf 10 0 0 0 ⟨#[]⟩ 5 d.at_).toArray) := by exact bl
     have hX_ : ((w1.alloc (.cells dz0.toArray 40)).setRow w1.heap.size (c1110 (.slice a n cap) (.slice sa ls.length scap) d.p 9 0 0 d.start d.at_ d.field d.wire 0 d.utf 10 0 0 0 ⟨#[]⟩ 5 d.at_).toArray).heap[w1.heap.size]? = some (.cells (c1110 (.slice a n cap) (.slice sa ls.length scap) d.p 9 0 0 d.start d.at_ d.field d.wire 0 d.utf 10 0 0 0 ⟨#[]⟩ 5 d.at_).toArray 40 (0, 0)) := hset_row (cs := dz0.toArray) (hset_new rfl)
     obtain ⟨w2, hw2⟩ : ∃ w2, w2 = (w1.alloc (.cells dz0.toArray 40)).setRow w1.heap.size (c1110 (.slice a n cap) (.slice sa ls.length scap) d.p 9 0 0 d.start d.at_ d.field d.wire 0 d.utf 10 0 0 0 ⟨#[]⟩ 5 d.at_).toArray := ⟨_, rfl⟩
     rw [← hw2] at hbx hX_ ⊢
     clear hw2
     have H2 := Lib.hid (H1.out.keep (hbx.trans (Below.refl _ _).drew : Below w1.heap.size w1 w2.drew)); clear H1
     have HO2 := Lib.hid (owns_below HO1.out (hbx.trans (Below.refl _ _).drew : Below w1.heap.size w1 w2.drew) (Nat.le_refl _)); clear HO1
     have HX := Lib.hid hX_
     have kX := box_cells hX_; clear hX_
     have HN := Lib.hid (sl_newsN (w := w2.drew) (cs := Ev.cs) (xs := [failE 5 d.at_]) (by omega) ev_len (evs_of_own (by rw [List.flatMap_cons, List.flatMap_nil, List.append_nil]; exact HO2.out) rfl) _ rfl)
     refine wp_region_till (fun w' => ∀ i : Nat, w'.cell? ⟨w1.heap.size, i, none⟩ = ((c1110 (.slice a n cap) (.slice sa ls.length scap) d.p 9 0 0 d.start d.at_ d.field d.wire 0 d.utf 10 0 0 0 ⟨#[]⟩ 5 d.at_).toArray : Array Value)[i]?) (fun _ => false) (by kernel_rfl) ?_
     have hS : (fun w' : World => ∀ i : Nat, w'.cell? ⟨w1.heap.size, i, none⟩ = ((c1110 (.slice a n cap) (.slice sa ls.length scap) d.p 9 0 0 d.start d.at_ d.field d.wire 0 d.utf 10 0 0 0 ⟨#[]⟩ 5 d.at_).toArray : Array Value)[i]?) w2.drew := kX
     clear kX
     refine' wpTill_take (i := 0) (oi := _) (v := _) rfl (by kernel_rfl) (by kernel_rfl) (by kernel_rfl) (by kernel_rfl) (fun _ _ _ h => h) (yieldsIf_load_mid (by rfl) _ _ rfl _ _ rfl (c1110 (.slice a n cap) (.slice sa ls.length scap) d.p 9 0 0 d.start d.at_ d.field d.wire 0 d.utf 10 0 0 0 ⟨#[]⟩ 5 d.at_) _ (fun wq hq => range_of_cells hq) Tryz.underlying40 rfl size_Dec) hS ?_
     try simp only [List.getElem_toArray, List.getElem_cons_succ, List.getElem_cons_zero, Act.put, List.setIfInBounds_toArray, List.set_cons_zero, List.set_cons_succ]
     refine tk (i := 1) hS ?_
     refine tk (i := 2) hS ?_
     refine wpTill_op (i := 3) (by kernel_rfl) rfl (fun K hK => ?_)
     refine step_append_own rfl _ _ 43 rfl (w.heap.size + 1 + 1) 38 i0 _ 7 64 Tryz.underlying43 hi hz0 hz1 hz2 rfl (by decide) _ fs.length (fs.flatMap Ev.cs) rfl H2.out.ev ⟨g1, 0, none⟩ 1 ecap1 (failE 5 d.at_).cs rfl rfl (fun j u hj => HN.out j u (by rw [List.flatMap_cons, List.flatMap_nil, List.append_nil]; exact hj)) (ev_one _) (by unfold maxLen; omega) (by omega) H2.out.sz ?_
     intro v3 w3 hown3 hgr3 _
     obtain ⟨ea3, ecap3, rfl, _⟩ := own_sh hown3
     have hX3 : w3.heap[w1.heap.size]? = some (.cells (c1110 (.slice a n cap) (.slice sa ls.length scap) d.p 9 0 0 d.start d.at_ d.field d.wire 0 d.utf 10 0 0 0 ⟨#[]⟩ 5 d.at_).toArray 40 (0, 0)) := (hgr3.block _ (box_lt HX.out) (fun e => by obtain ⟨cur, hc⟩ := own_blk H2.out.ev e.symm; exact absurd (typed_ne hc HX.out) (by decide))).trans HX.out
     have HT := Lib.hid (H2.out.tell (x := failE 5 d.at_) (Below.refl _ _) hgr3 hown3); clear hown3 hgr3
     have hS3 : (fun w' : World => ∀ i : Nat, w'.cell? ⟨w1.heap.size, i, none⟩ = ((c1110 (.slice a n cap) (.slice sa ls.length scap) d.p 9 0 0 d.start d.at_ d.field d.wire 0 d.utf 10 0 0 0 ⟨#[]⟩ 5 d.at_).toArray : Array Value)[i]?) w3 := box_cells hX3
     clear hX3 hS HN
     refine hK.out _ _ (fun _ => hS3) ?_
     clear hK K
     try simp only [Act.put, List.setIfInBounds_toArray, List.set_cons_zero, List.set_cons_succ]
     refine wpTill_op (i := 4) (by kernel_rfl) rfl (fun K hK => ?_)
     refine step_store_row rfl 40 _ _ rfl (w.heap.size + 1) (c1110 (.slice a n cap) (.slice sa ls.length scap) d.p 9 0 0 d.start d.at_ d.field d.wire 0 d.utf 10 0 0 0 ⟨#[]⟩ 5 d.at_).toArray rfl rfl 40 dz0.toArray HT.out.zero size_Dec rfl (by simp [Value.oneCell']) ?_
     have hne : w1.heap.size ≠ w.heap.size + 1 := by have := H2.out.sz; omega
     have hS4 : (fun w' : World => ∀ i : Nat, w'.cell? ⟨w1.heap.size, i, none⟩ = ((c1110 (.slice a n cap) (.slice sa ls.length scap) d.p 9 0 0 d.start d.at_ d.field d.wire 0 d.utf 10 0 0 0 ⟨#[]⟩ 5 d.at_).toArray : Array Value)[i]?) (w3.setRow (w.heap.size + 1) (c1110 (.slice a n cap) (.slice sa ls.length scap) d.p 9 0 0 d.start d.at_ d.field d.wire 0 d.utf 10 0 0 0 ⟨#[]⟩ 5 d.at_).toArray) := fun i => (World.cell?_of_block (a := ⟨w1.heap.size, i, none⟩) (setRow_other _ _ _ _ (by simp; omega))).trans (hS3 i)
     refine hK.out _ _ (fun _ => hS4) ?_
     clear hK K
     try simp only [Act.put, List.setIfInBounds_toArray, List.set_cons_zero, List.set_cons_succ]
     refine wpTill_op (i := 5) (by kernel_rfl) rfl (fun K hK => ?_)
     go_simp
     refine hK.out _ _ (fun _ => hS4) ?_
     clear hK K
     refine wpTill_done (by kernel_rfl) ?_ _
     go_wp2
     rw [← eR.out]
     refine fin_set (e := failD d 5 d.at_) (d := d) Tryz.results48 ?_ ?_ HT.out
     ·rfl
     ·simp
    ·skip
     have HM6 := Lib.hid h6
     have g6 : (d.mode == 6) = true := by simp; omega
     clear h6
     go_wp2_with (first | (at_builtin; generalize hw2 : World.setCell _ (⟨w.heap.size, 16, none⟩ : Addr) (.int .i64 0) = w2; have hA2 : w2.heap[w.heap.size]? = some (.cells (c1101 (.slice a n cap) (.slice sa ls.length scap) d.p 2 d.bits d.have_ d.start d.at_ d.field d.wire 0 0 0 0 d.end_).toArray 40 (0, 0)) := (by rw [← hw2]; apply hset_eq; (repeat (first | (with_reducible exact HS.out.box) | (with_reducible apply hset_set))); simp only [List.setIfInBounds_toArray, List.set_cons_zero, List.set_cons_succ]); have hG2 : wr.grownBy w2 (some w.heap.size) := (by rw [← hw2]; (repeat (with_reducible refine only_cell ?_ _ _)); exact only_refl _ _); have hzz : wr.heap.size = w2.heap.size := (by rw [← hw2]; simp); clear hw2 kA fA hBA; have H2 := Lib.hid (HS.out.upd (e := shutD d) hG2 hA2); clear hG2 hA2; refine wpList_append_own _ rfl _ _ 43 rfl (w.heap.size + 1 + 1) 38 i0 _ 7 64 Tryz.underlying43 hi hz0 hz1 hz2 rfl (by decide) _ fs.length (fs.flatMap Ev.cs) rfl (H2.out.ev.alloc _) ⟨wr.heap.size, 0, none⟩ 1 1 (evK 5).cs rfl rfl (World.news_of_block (cs := (evK 5).cs.toArray) (t := 38) (fr := (0, 0)) (hset_new hzz)) (ev_one _) (by unfold maxLen; omega) (by omega) (by have := H2.out.sz; simp; omega) ?_; intro v3 w3 hown3 hgr3 _; obtain ⟨ea3, ecap3, rfl, _⟩ := own_sh hown3; have HT := Lib.hid (H2.out.tell (x := evK 5) (show Below w2.heap.size w2 _ from by exact bl) hgr3 hown3); clear hown3 hgr3 H2))
     have hmeas2 := msrS_eq (box_cells HT.out.box)
     have hcl : closeS d ls = some (shutD d, ls, [evK 5]) := closeS_shut HM6.out hw hu
     have hq := closeS_msr hcl
     have hq3 := closeS_len hcl
     have eR := Lib.hid (settle_step hcl HR1.out)
     clear hcl
     go_roundw
     case rel => exact ⟨shutD d, ls, fs ++ [evK 5], sa, scap, ea3, ecap3, by rw [List.length_append]; rfl, HT.out, eR, by rw [List.length_append]; simp; omega, by omega⟩
     case measure => rw [hmeas2, hmeas]; exact hq
   ·skip
    have eR := settle_end (ls := ls) (closeS_none (by omega) (by omega) (by omega)) HR1.out
    have g6 : (d.mode == 6) = true := by simp; omega
    have g7 : (d.mode == 7) = false := by simp; omega
    have g8 : (d.mode == 8) = false := by simp; omega
    have g2 : (d.mode == 2) = false := by simp; omega
    have fin := fun (tm : Array Value) (t1 : tm.getD 2 undef = .pointer (some ⟨w.heap.size + 1, 0, none⟩)) (t2 : tm.getD 3 undef = .slice ea fs.length ecap) => fin_set (e := d) (F := Tryz.f48) Tryz.results48 t1 t2 HS.out
    rw [eR] at fin
    clear h6
    go_wp2_with (first | ((with_reducible show wpList _ _ _ (⟨_, Op.load 40 _, _, _, _, _⟩ :: _) _ _); refine wlm w.heap.size (Dc.cl d (.slice a n cap) (.slice sa ls.length scap)) (range_of_cells kA) ?_) | ((with_reducible show wpList _ _ _ (⟨_, Op.store 40 _ _, _, _, _, _⟩ :: _) _ _); refine wsr (w.heap.size + 1) (Dc.cl d (.slice a n cap) (.slice sa ls.length scap)).toArray HS.out.zero ?_))
    all_goals (refine fin _ ?_ ?_ <;> rfl)
  ·by_cases h7 : d.mode = 7
   ·by_cases hw : d.want < 1
    ·skip
     have H2 : SetI w B0 (.slice a n cap) ((wr.setCell ⟨w.heap.size, 4, none⟩ (.int .i64 2)).setCell ⟨w.heap.size, 16, none⟩ (.int .i64 0)) (mode0 d 2) ls fs sa scap ea ecap := HS.out.upd (by (repeat (with_reducible refine only_cell ?_ _ _)); exact only_refl _ _) (by apply hset_eq; (repeat (first | (with_reducible exact HS.out.box) | (with_reducible apply hset_set))); simp only [List.setIfInBounds_toArray, List.set_cons_zero, List.set_cons_succ]; rfl)
     have hmeas2 := msrS_eq (box_cells H2.box)
     have H3 := Lib.hid H2; clear H2
     have hcl := closeS_m0 (ls := ls) (by omega) (.inl h7) hw
     have hq := closeS_msr hcl
     have eR := Lib.hid (settle_step hcl HR1.out); rw [List.append_nil] at eR
     clear hcl
     go_wp2_with fail
     go_roundw
     case rel => exact ⟨mode0 d 2, ls, fs, sa, scap, ea, ecap, rfl, H3.out, eR, by omega, h8⟩
     case measure => rw [hmeas2, hmeas]; exact hq
    ·skip
     have eR := settle_end (ls := ls) (closeS_none (by omega) (by omega) (by omega)) HR1.out
     have g6 : (d.mode == 6) = false := by simp; omega
     have g7 : (d.mode == 7) = true := by simp; omega
     have g8 : (d.mode == 8) = false := by simp; omega
     have g2 : (d.mode == 2) = false := by simp; omega
     have fin := fun (tm : Array Value) (t1 : tm.getD 2 undef = .pointer (some ⟨w.heap.size + 1, 0, none⟩)) (t2 : tm.getD 3 undef = .slice ea fs.length ecap) => fin_set (e := d) (F := Tryz.f48) Tryz.results48 t1 t2 HS.out
     rw [eR] at fin
     clear h7
     go_wp2_with (first | ((with_reducible show wpList _ _ _ (⟨_, Op.load 40 _, _, _, _, _⟩ :: _) _ _); refine wlm w.heap.size (Dc.cl d (.slice a n cap) (.slice sa ls.length scap)) (range_of_cells kA) ?_) | ((with_reducible show wpList _ _ _ (⟨_, Op.store 40 _ _, _, _, _, _⟩ :: _) _ _); refine wsr (w.heap.size + 1) (Dc.cl d (.slice a n cap) (.slice sa ls.length scap)).toArray HS.out.zero ?_))
     all_goals (refine fin _ ?_ ?_ <;> rfl)
   ·by_cases h8' : d.mode = 8
    ·by_cases hh : d.have_ = 0
     ·by_cases hw : d.want < 1
      ·skip
       have H2 : SetI w B0 (.slice a n cap) ((wr.setCell ⟨w.heap.size, 4, none⟩ (.int .i64 2)).setCell ⟨w.heap.size, 16, none⟩ (.int .i64 0)) (mode0 d 2) ls fs sa scap ea ecap := HS.out.upd (by (repeat (with_reducible refine only_cell ?_ _ _)); exact only_refl _ _) (by apply hset_eq; (repeat (first | (with_reducible exact HS.out.box) | (with_reducible apply hset_set))); simp only [List.setIfInBounds_toArray, List.set_cons_zero, List.set_cons_succ]; rfl)
       have hmeas2 := msrS_eq (box_cells H2.box)
       have H3 := Lib.hid H2; clear H2
       have hcl := closeS_m0 (ls := ls) (by omega) (.inr ⟨h8', hh⟩) hw
       have hq := closeS_msr hcl
       have eR := Lib.hid (settle_step hcl HR1.out); rw [List.append_nil] at eR
       clear hcl
       go_wp2_with fail
       go_roundw
       case rel => exact ⟨mode0 d 2, ls, fs, sa, scap, ea, ecap, rfl, H3.out, eR, by omega, h8⟩
       case measure => rw [hmeas2, hmeas]; exact hq
      ·skip
       have eR := settle_end (ls := ls) (closeS_none (by omega) (by omega) (by omega)) HR1.out
       have g6 : (d.mode == 6) = false := by simp; omega
       have g7 : (d.mode == 7) = false := by simp; omega
       have g8 : (d.mode == 8) = true := by simp; omega
       have g2 : (d.mode == 2) = false := by simp; omega
       have gh : (d.have_ == 0) = true := by simp; omega
       have fin := fun (tm : Array Value) (t1 : tm.getD 2 undef = .pointer (some ⟨w.heap.size + 1, 0, none⟩)) (t2 : tm.getD 3 undef = .slice ea fs.length ecap) => fin_set (e := d) (F := Tryz.f48) Tryz.results48 t1 t2 HS.out
       rw [eR] at fin
       clear h8'
       clear hh
       go_wp2_with (first | ((with_reducible show wpList _ _ _ (⟨_, Op.load 40 _, _, _, _, _⟩ :: _) _ _); refine wlm w.heap.size (Dc.cl d (.slice a n cap) (.slice sa ls.length scap)) (range_of_cells kA) ?_) | ((with_reducible show wpList _ _ _ (⟨_, Op.store 40 _ _, _, _, _, _⟩ :: _) _ _); refine wsr (w.heap.size + 1) (Dc.cl d (.slice a n cap) (.slice sa ls.length scap)).toArray HS.out.zero ?_))
       all_goals (refine fin _ ?_ ?_ <;> rfl)
     ·skip
      have eR := settle_end (ls := ls) (closeS_none (by omega) (by omega) (by omega)) HR1.out
      have g6 : (d.mode == 6) = false := by simp; omega
      have g7 : (d.mode == 7) = false := by simp; omega
      have g8 : (d.mode == 8) = true := by simp; omega
      have g2 : (d.mode == 2) = false := by simp; omega
      have gh : (d.have_ == 0) = false := by simp; omega
      have fin := fun (tm : Array Value) (t1 : tm.getD 2 undef = .pointer (some ⟨w.heap.size + 1, 0, none⟩)) (t2 : tm.getD 3 undef = .slice ea fs.length ecap) => fin_set (e := d) (F := Tryz.f48) Tryz.results48 t1 t2 HS.out
      rw [eR] at fin
      clear h8'
      by_cases hw : d.want < 1
      ·skip
       go_wp2_with (first | ((with_reducible show wpList _ _ _ (⟨_, Op.load 40 _, _, _, _, _⟩ :: _) _ _); refine wlm w.heap.size (Dc.cl d (.slice a n cap) (.slice sa ls.length scap)) (range_of_cells kA) ?_) | ((with_reducible show wpList _ _ _ (⟨_, Op.store 40 _ _, _, _, _, _⟩ :: _) _ _); refine wsr (w.heap.size + 1) (Dc.cl d (.slice a n cap) (.slice sa ls.length scap)).toArray HS.out.zero ?_))
       all_goals (refine fin _ ?_ ?_ <;> rfl)
      ·skip
       go_wp2_with (first | ((with_reducible show wpList _ _ _ (⟨_, Op.load 40 _, _, _, _, _⟩ :: _) _ _); refine wlm w.heap.size (Dc.cl d (.slice a n cap) (.slice sa ls.length scap)) (range_of_cells kA) ?_) | ((with_reducible show wpList _ _ _ (⟨_, Op.store 40 _ _, _, _, _, _⟩ :: _) _ _); refine wsr (w.heap.size + 1) (Dc.cl d (.slice a n cap) (.slice sa ls.length scap)).toArray HS.out.zero ?_))
       all_goals (refine fin _ ?_ ?_ <;> rfl)
    ·by_cases h2 : d.mode = 2
     ·by_cases hh : d.have_ = 0
      ·by_cases hl : 0 < ls.length
       ·skip
        obtain ⟨m, hml⟩ : ∃ m, ls.length = m + 1 := ⟨ls.length - 1, by omega⟩
        obtain ⟨l, he⟩ : ∃ l, ls[m]? = some l := ⟨_, List.getElem?_eq_getElem (by omega)⟩
        have htl := topL_at he hml
        have hcap := own_lecap HS.out.lv
        obtain ⟨b, off, rfl, hlb, c0, c1⟩ := Lvls.at (lvls_of_own HS.out.lv rfl) he
        have HN := Lib.hid (sl_newsN (w := wr.alloc (.cells #[] 67)) (cs := Lvl.cs) (by omega) lvl_len (Sl.keep (lvls_of_own HS.out.lv rfl) bl) _ rfl)
        have hlD : decide ((0 : Int) < ((m + 1 : Nat) : Int)) = true := decide_eq_true (by omega)
        have hlI : (0 : Int) < ((m + 1 : Nat) : Int) := by omega
        have hms : (m : Int) ≤ (scap : Int) := by omega
        have hmw : IntKind.i64.wrap (m : Int) = m := IntWalk.i64_in _ (by omega)
        rw [hml] at kA hcap
        clear he c0
        have g6 : (d.mode == 6) = false := by simp; omega
        have g7 : (d.mode == 7) = false := by simp; omega
        have g8 : (d.mode == 8) = false := by simp; omega
        have g2 : (d.mode == 2) = true := by simp; omega
        have gh : (d.have_ == 0) = true := by simp; omega
        by_cases ht : l.left = 0
        ·have gt : (l.left == 0) = true := by simp; omega
         rw [ht] at htl
         have HM2 := Lib.hid h2; have HH2 := Lib.hid hh; clear h2 hh
         have hw01 : Hid True := Lib.hid trivial
         by_cases hw : d.want < 1
         ·skip
          by_cases hm0 : m = 0
          ·have HM0 := Lib.hid hm0
           have hm2 : (((m + 1 : Nat) : Int) == 1) = true := by simp; omega
           have hm3 : ((m : Int) + 1 == 1) = true := by simp; omega
           clear hm0
           go_wp2_with (first | (at_builtin; have HB : Hid ((wr.alloc (.cells #[] 67)).ownsRow wr.heap.size 67 2 (.slice (some ⟨wr.heap.size, 0, none⟩) 0 0) 0 []) := Lib.hid (own_built wr 67 2); refine wpList_append_own _ rfl _ _ 29 rfl wr.heap.size 67 l0 _ 2 16 Tryz.underlying29 hl0 hl1 hl2 hl3 rfl (by decide) _ 0 [] rfl HB.out ⟨b, off, none⟩ m scap ((ls.take m).flatMap Lvl.cs) rfl (by rw [flatMap_len lvl_len, List.length_take, hml]; omega) (fun j u hj => HN.out j u (take_pre hj)) (flat_one lvl_one _) (by unfold maxLen; omega) (by omega) (by simp) ?_; intro v2 w2 hown2 hgr2 _; obtain ⟨sa4, scap4, rfl, _⟩ := own_sh hown2; rw [Nat.zero_add, List.nil_append] at hown2; have hb2 : Below wr.heap.size wr w2 := below_grown bl hgr2 (fun g e => by have e' : wr.heap.size = g := Option.some.inj e; omega) (by simp); have hBw : B0 ≤ wr.heap.size := (by have := HS.out.sz; omega); have hk2 := box_cells (HS.out.keep hb2).box; have hf2 := box_frozen (HS.out.keep hb2).box; have hl2' := box_lt (HS.out.keep hb2).box; rw [hml] at hk2; have HP := Lib.hid ((HS.out.keep hb2).setLv (ls' := ls.take m) (k := m) (by rw [List.length_take, hml]; omega) (owns_le hown2 hBw)); clear hown2 hgr2 hb2 HB HN kA fA hBA c1 hlb; simp only [Nat.zero_add]) | (at_builtin; generalize hw4 : World.setCell _ (⟨w.heap.size, 4, none⟩ : Addr) (.int .i64 1) = w4; have hA4 : w4.heap[w.heap.size]? = some (.cells (c1111 (.slice a n cap) (.slice sa4 (ls.take m).length scap4) d.p 1 d.bits d.have_ d.start d.at_ d.field d.wire d.want d.utf d.end_).toArray 40 (0, 0)) := (by rw [← hw4]; apply hset_eq; (repeat (first | (with_reducible exact HP.out.box) | (with_reducible apply hset_set))); simp only [List.setIfInBounds_toArray, List.set_cons_zero, List.set_cons_succ]); have hG4 : World.grownBy _ w4 (some w.heap.size) := (by rw [← hw4]; exact only_set _ _ _ _); have hzz : w2.heap.size = w4.heap.size := (by rw [← hw4]; simp); clear hw4; have H4 := Lib.hid (HP.out.upd (e := modeD d 1) hG4 hA4); clear hG4 hA4 HP hk2 hf2 hl2'; refine wpList_append_own _ rfl _ _ 43 rfl (w.heap.size + 1 + 1) 38 i0 _ 7 64 Tryz.underlying43 hi hz0 hz1 hz2 rfl (by decide) _ fs.length (fs.flatMap Ev.cs) rfl (H4.out.ev.alloc _) ⟨w2.heap.size, 0, none⟩ 1 1 (evK 8).cs rfl rfl (World.news_of_block (cs := (evK 8).cs.toArray) (t := 38) (fr := (0, 0)) (hset_new hzz)) (ev_one _) (by unfold maxLen; omega) (by omega) (by have := H4.out.sz; simp; omega) ?_; intro v5 w5 hown5 hgr5 _; obtain ⟨ea5, ecap5, rfl, _⟩ := own_sh hown5; have HT := Lib.hid (H4.out.tell (x := evK 8) (show Below w4.heap.size w4 _ from by exact bl) hgr5 hown5); clear hown5 hgr5 H4))
           have hmeas2 := msrS_eq (box_cells HT.out.box)
           have hcl : closeS d ls = some (modeD d 1, ls.take m, [evK 8]) := (closeS_one HM2.out HH2.out htl (by have := HM0.out; omega)).trans (by rw [HM0.out, List.take_zero])
           have hq := closeS_msr hcl
           have hq3 := closeS_len hcl
           have eR := Lib.hid (settle_step hcl HR1.out)
           clear hcl
           go_roundw
           case rel => exact ⟨modeD d 1, ls.take m, fs ++ [evK 8], sa4, scap4, ea5, ecap5, by rw [List.length_append]; rfl, HT.out, eR, by rw [List.length_append]; simp; omega, by omega⟩
           case measure => rw [hmeas2, hmeas]; exact hq
          ·have hm2 : (((m + 1 : Nat) : Int) == 1) = false := by simp; omega
           have hm3 : ((m : Int) + 1 == 1) = false := by simp; omega
           go_wp2_with (first | (at_builtin; have HB : Hid ((wr.alloc (.cells #[] 67)).ownsRow wr.heap.size 67 2 (.slice (some ⟨wr.heap.size, 0, none⟩) 0 0) 0 []) := Lib.hid (own_built wr 67 2); refine wpList_append_own _ rfl _ _ 29 rfl wr.heap.size 67 l0 _ 2 16 Tryz.underlying29 hl0 hl1 hl2 hl3 rfl (by decide) _ 0 [] rfl HB.out ⟨b, off, none⟩ m scap ((ls.take m).flatMap Lvl.cs) rfl (by rw [flatMap_len lvl_len, List.length_take, hml]; omega) (fun j u hj => HN.out j u (take_pre hj)) (flat_one lvl_one _) (by unfold maxLen; omega) (by omega) (by simp) ?_; intro v2 w2 hown2 hgr2 _; obtain ⟨sa4, scap4, rfl, _⟩ := own_sh hown2; rw [Nat.zero_add, List.nil_append] at hown2; have hb2 : Below wr.heap.size wr w2 := below_grown bl hgr2 (fun g e => by have e' : wr.heap.size = g := Option.some.inj e; omega) (by simp); have hBw : B0 ≤ wr.heap.size := (by have := HS.out.sz; omega); have hk2 := box_cells (HS.out.keep hb2).box; have hf2 := box_frozen (HS.out.keep hb2).box; have hl2' := box_lt (HS.out.keep hb2).box; rw [hml] at hk2; have HP := Lib.hid ((HS.out.keep hb2).setLv (ls' := ls.take m) (k := m) (by rw [List.length_take, hml]; omega) (owns_le hown2 hBw)); clear hown2 hgr2 hb2 HB HN kA fA hBA c1 hlb; simp only [Nat.zero_add]) | (at_builtin; generalize hw4 : World.setCell _ (⟨w.heap.size, 5, none⟩ : Addr) (.slice sa4 m scap4) = w4; rw [hw4] at HP; have hzz : w2.heap.size = w4.heap.size := (by rw [← hw4]; simp); clear hw4 hk2 hf2 hl2'; refine wpList_append_own _ rfl _ _ 43 rfl (w.heap.size + 1 + 1) 38 i0 _ 7 64 Tryz.underlying43 hi hz0 hz1 hz2 rfl (by decide) _ fs.length (fs.flatMap Ev.cs) rfl (HP.out.ev.alloc _) ⟨w2.heap.size, 0, none⟩ 1 1 (evK 7).cs rfl rfl (World.news_of_block (cs := (evK 7).cs.toArray) (t := 38) (fr := (0, 0)) (hset_new hzz)) (ev_one _) (by unfold maxLen; omega) (by omega) (by have := HP.out.sz; simp; omega) ?_; intro v5 w5 hown5 hgr5 _; obtain ⟨ea5, ecap5, rfl, _⟩ := own_sh hown5; have HT := Lib.hid (HP.out.tell (x := evK 7) (show Below w4.heap.size w4 _ from by exact bl) hgr5 hown5); clear hown5 hgr5 HP))
           have hmeas2 := msrS_eq (box_cells HT.out.box)
           have hcl : closeS d ls = some (d, ls.take m, [evK 7]) := (closeS_up HM2.out HH2.out htl (by omega)).trans (by rw [List.dropLast_eq_take, hml, Nat.add_sub_cancel])
           have hq := closeS_msr hcl
           have hq3 := closeS_len hcl
           have eR := Lib.hid (settle_step hcl HR1.out)
           clear hcl
           go_roundw
           case rel => exact ⟨d, ls.take m, fs ++ [evK 7], sa4, scap4, ea5, ecap5, by rw [List.length_append]; rfl, HT.out, eR, by rw [List.length_append]; simp; omega, by omega⟩
           case measure => rw [hmeas2, hmeas]; exact hq
         ·skip
          by_cases hm0 : m = 0
          ·have HM0 := Lib.hid hm0
           have hm2 : (((m + 1 : Nat) : Int) == 1) = true := by simp; omega
           have hm3 : ((m : Int) + 1 == 1) = true := by simp; omega
           clear hm0
           go_wp2_with (first | (at_builtin; have HB : Hid ((wr.alloc (.cells #[] 67)).ownsRow wr.heap.size 67 2 (.slice (some ⟨wr.heap.size, 0, none⟩) 0 0) 0 []) := Lib.hid (own_built wr 67 2); refine wpList_append_own _ rfl _ _ 29 rfl wr.heap.size 67 l0 _ 2 16 Tryz.underlying29 hl0 hl1 hl2 hl3 rfl (by decide) _ 0 [] rfl HB.out ⟨b, off, none⟩ m scap ((ls.take m).flatMap Lvl.cs) rfl (by rw [flatMap_len lvl_len, List.length_take, hml]; omega) (fun j u hj => HN.out j u (take_pre hj)) (flat_one lvl_one _) (by unfold maxLen; omega) (by omega) (by simp) ?_; intro v2 w2 hown2 hgr2 _; obtain ⟨sa4, scap4, rfl, _⟩ := own_sh hown2; rw [Nat.zero_add, List.nil_append] at hown2; have hb2 : Below wr.heap.size wr w2 := below_grown bl hgr2 (fun g e => by have e' : wr.heap.size = g := Option.some.inj e; omega) (by simp); have hBw : B0 ≤ wr.heap.size := (by have := HS.out.sz; omega); have hk2 := box_cells (HS.out.keep hb2).box; have hf2 := box_frozen (HS.out.keep hb2).box; have hl2' := box_lt (HS.out.keep hb2).box; rw [hml] at hk2; have HP := Lib.hid ((HS.out.keep hb2).setLv (ls' := ls.take m) (k := m) (by rw [List.length_take, hml]; omega) (owns_le hown2 hBw)); clear hown2 hgr2 hb2 HB HN kA fA hBA c1 hlb; simp only [Nat.zero_add]) | (at_builtin; generalize hw4 : World.setCell _ (⟨w.heap.size, 4, none⟩ : Addr) (.int .i64 1) = w4; have hA4 : w4.heap[w.heap.size]? = some (.cells (c1111 (.slice a n cap) (.slice sa4 (ls.take m).length scap4) d.p 1 d.bits d.have_ d.start d.at_ d.field d.wire d.want d.utf d.end_).toArray 40 (0, 0)) := (by rw [← hw4]; apply hset_eq; (repeat (first | (with_reducible exact HP.out.box) | (with_reducible apply hset_set))); simp only [List.setIfInBounds_toArray, List.set_cons_zero, List.set_cons_succ]); have hG4 : World.grownBy _ w4 (some w.heap.size) := (by rw [← hw4]; exact only_set _ _ _ _); have hzz : w2.heap.size = w4.heap.size := (by rw [← hw4]; simp); clear hw4; have H4 := Lib.hid (HP.out.upd (e := modeD d 1) hG4 hA4); clear hG4 hA4 HP hk2 hf2 hl2'; refine wpList_append_own _ rfl _ _ 43 rfl (w.heap.size + 1 + 1) 38 i0 _ 7 64 Tryz.underlying43 hi hz0 hz1 hz2 rfl (by decide) _ fs.length (fs.flatMap Ev.cs) rfl (H4.out.ev.alloc _) ⟨w2.heap.size, 0, none⟩ 1 1 (evK 8).cs rfl rfl (World.news_of_block (cs := (evK 8).cs.toArray) (t := 38) (fr := (0, 0)) (hset_new hzz)) (ev_one _) (by unfold maxLen; omega) (by omega) (by have := H4.out.sz; simp; omega) ?_; intro v5 w5 hown5 hgr5 _; obtain ⟨ea5, ecap5, rfl, _⟩ := own_sh hown5; have HT := Lib.hid (H4.out.tell (x := evK 8) (show Below w4.heap.size w4 _ from by exact bl) hgr5 hown5); clear hown5 hgr5 H4))
           have hmeas2 := msrS_eq (box_cells HT.out.box)
           have hcl : closeS d ls = some (modeD d 1, ls.take m, [evK 8]) := (closeS_one HM2.out HH2.out htl (by have := HM0.out; omega)).trans (by rw [HM0.out, List.take_zero])
           have hq := closeS_msr hcl
           have hq3 := closeS_len hcl
           have eR := Lib.hid (settle_step hcl HR1.out)
           clear hcl
           go_roundw
           case rel => exact ⟨modeD d 1, ls.take m, fs ++ [evK 8], sa4, scap4, ea5, ecap5, by rw [List.length_append]; rfl, HT.out, eR, by rw [List.length_append]; simp; omega, by omega⟩
           case measure => rw [hmeas2, hmeas]; exact hq
          ·have hm2 : (((m + 1 : Nat) : Int) == 1) = false := by simp; omega
           have hm3 : ((m : Int) + 1 == 1) = false := by simp; omega
           go_wp2_with (first | (at_builtin; have HB : Hid ((wr.alloc (.cells #[] 67)).ownsRow wr.heap.size 67 2 (.slice (some ⟨wr.heap.size, 0, none⟩) 0 0) 0 []) := Lib.hid (own_built wr 67 2); refine wpList_append_own _ rfl _ _ 29 rfl wr.heap.size 67 l0 _ 2 16 Tryz.underlying29 hl0 hl1 hl2 hl3 rfl (by decide) _ 0 [] rfl HB.out ⟨b, off, none⟩ m scap ((ls.take m).flatMap Lvl.cs) rfl (by rw [flatMap_len lvl_len, List.length_take, hml]; omega) (fun j u hj => HN.out j u (take_pre hj)) (flat_one lvl_one _) (by unfold maxLen; omega) (by omega) (by simp) ?_; intro v2 w2 hown2 hgr2 _; obtain ⟨sa4, scap4, rfl, _⟩ := own_sh hown2; rw [Nat.zero_add, List.nil_append] at hown2; have hb2 : Below wr.heap.size wr w2 := below_grown bl hgr2 (fun g e => by have e' : wr.heap.size = g := Option.some.inj e; omega) (by simp); have hBw : B0 ≤ wr.heap.size := (by have := HS.out.sz; omega); have hk2 := box_cells (HS.out.keep hb2).box; have hf2 := box_frozen (HS.out.keep hb2).box; have hl2' := box_lt (HS.out.keep hb2).box; rw [hml] at hk2; have HP := Lib.hid ((HS.out.keep hb2).setLv (ls' := ls.take m) (k := m) (by rw [List.length_take, hml]; omega) (owns_le hown2 hBw)); clear hown2 hgr2 hb2 HB HN kA fA hBA c1 hlb; simp only [Nat.zero_add]) | (at_builtin; generalize hw4 : World.setCell _ (⟨w.heap.size, 5, none⟩ : Addr) (.slice sa4 m scap4) = w4; rw [hw4] at HP; have hzz : w2.heap.size = w4.heap.size := (by rw [← hw4]; simp); clear hw4 hk2 hf2 hl2'; refine wpList_append_own _ rfl _ _ 43 rfl (w.heap.size + 1 + 1) 38 i0 _ 7 64 Tryz.underlying43 hi hz0 hz1 hz2 rfl (by decide) _ fs.length (fs.flatMap Ev.cs) rfl (HP.out.ev.alloc _) ⟨w2.heap.size, 0, none⟩ 1 1 (evK 7).cs rfl rfl (World.news_of_block (cs := (evK 7).cs.toArray) (t := 38) (fr := (0, 0)) (hset_new hzz)) (ev_one _) (by unfold maxLen; omega) (by omega) (by have := HP.out.sz; simp; omega) ?_; intro v5 w5 hown5 hgr5 _; obtain ⟨ea5, ecap5, rfl, _⟩ := own_sh hown5; have HT := Lib.hid (HP.out.tell (x := evK 7) (show Below w4.heap.size w4 _ from by exact bl) hgr5 hown5); clear hown5 hgr5 HP))
           have hmeas2 := msrS_eq (box_cells HT.out.box)
           have hcl : closeS d ls = some (d, ls.take m, [evK 7]) := (closeS_up HM2.out HH2.out htl (by omega)).trans (by rw [List.dropLast_eq_take, hml, Nat.add_sub_cancel])
           have hq := closeS_msr hcl
           have hq3 := closeS_len hcl
           have eR := Lib.hid (settle_step hcl HR1.out)
           clear hcl
           go_roundw
           case rel => exact ⟨d, ls.take m, fs ++ [evK 7], sa4, scap4, ea5, ecap5, by rw [List.length_append]; rfl, HT.out, eR, by rw [List.length_append]; simp; omega, by omega⟩
           case measure => rw [hmeas2, hmeas]; exact hq
        ·have gt : (l.left == 0) = false := by simp; omega
         have eR := settle_end (ls := ls) (closeS_none (by omega) (by omega) (by omega)) HR1.out
         have fin := fun (tm : Array Value) (t1 : tm.getD 2 undef = .pointer (some ⟨w.heap.size + 1, 0, none⟩)) (t2 : tm.getD 3 undef = .slice ea fs.length ecap) => fin_set (e := d) (F := Tryz.f48) Tryz.results48 t1 t2 HS.out
         rw [eR, hml] at fin
         clear h2 hh ht
         by_cases hw : d.want < 1
         ·skip
          go_wp2_with (first | ((with_reducible show wpList _ _ _ (⟨_, Op.load 40 _, _, _, _, _⟩ :: _) _ _); refine wlm w.heap.size (Dc.cl d (.slice a n cap) (.slice (some ⟨b, off, none⟩) (m + 1) scap)) (range_of_cells kA) ?_) | ((with_reducible show wpList _ _ _ (⟨_, Op.store 40 _ _, _, _, _, _⟩ :: _) _ _); refine wsr (w.heap.size + 1) (Dc.cl d (.slice a n cap) (.slice (some ⟨b, off, none⟩) (m + 1) scap)).toArray HS.out.zero ?_))
          all_goals (refine fin _ ?_ ?_ <;> rfl)
         ·skip
          go_wp2_with (first | ((with_reducible show wpList _ _ _ (⟨_, Op.load 40 _, _, _, _, _⟩ :: _) _ _); refine wlm w.heap.size (Dc.cl d (.slice a n cap) (.slice (some ⟨b, off, none⟩) (m + 1) scap)) (range_of_cells kA) ?_) | ((with_reducible show wpList _ _ _ (⟨_, Op.store 40 _ _, _, _, _, _⟩ :: _) _ _); refine wsr (w.heap.size + 1) (Dc.cl d (.slice a n cap) (.slice (some ⟨b, off, none⟩) (m + 1) scap)).toArray HS.out.zero ?_))
          all_goals (refine fin _ ?_ ?_ <;> rfl)
       ·have gl : decide ((0 : Int) < (ls.length : Int)) = false := decide_eq_false (by omega)
        have eR := settle_end (ls := ls) (closeS_none (by omega) (by omega) (by omega)) HR1.out
        have g6 : (d.mode == 6) = false := by simp; omega
        have g7 : (d.mode == 7) = false := by simp; omega
        have g8 : (d.mode == 8) = false := by simp; omega
        have g2 : (d.mode == 2) = true := by simp; omega
        have gh : (d.have_ == 0) = true := by simp; omega
        have fin := fun (tm : Array Value) (t1 : tm.getD 2 undef = .pointer (some ⟨w.heap.size + 1, 0, none⟩)) (t2 : tm.getD 3 undef = .slice ea fs.length ecap) => fin_set (e := d) (F := Tryz.f48) Tryz.results48 t1 t2 HS.out
        rw [eR] at fin
        clear h2
        clear hh
        by_cases hw : d.want < 1
        ·skip
         go_wp2_with (first | ((with_reducible show wpList _ _ _ (⟨_, Op.load 40 _, _, _, _, _⟩ :: _) _ _); refine wlm w.heap.size (Dc.cl d (.slice a n cap) (.slice sa ls.length scap)) (range_of_cells kA) ?_) | ((with_reducible show wpList _ _ _ (⟨_, Op.store 40 _ _, _, _, _, _⟩ :: _) _ _); refine wsr (w.heap.size + 1) (Dc.cl d (.slice a n cap) (.slice sa ls.length scap)).toArray HS.out.zero ?_))
         all_goals (refine fin _ ?_ ?_ <;> rfl)
        ·skip
         go_wp2_with (first | ((with_reducible show wpList _ _ _ (⟨_, Op.load 40 _, _, _, _, _⟩ :: _) _ _); refine wlm w.heap.size (Dc.cl d (.slice a n cap) (.slice sa ls.length scap)) (range_of_cells kA) ?_) | ((with_reducible show wpList _ _ _ (⟨_, Op.store 40 _ _, _, _, _, _⟩ :: _) _ _); refine wsr (w.heap.size + 1) (Dc.cl d (.slice a n cap) (.slice sa ls.length scap)).toArray HS.out.zero ?_))
         all_goals (refine fin _ ?_ ?_ <;> rfl)
      ·skip
       have eR := settle_end (ls := ls) (closeS_none (by omega) (by omega) (by omega)) HR1.out
       have g6 : (d.mode == 6) = false := by simp; omega
       have g7 : (d.mode == 7) = false := by simp; omega
       have g8 : (d.mode == 8) = false := by simp; omega
       have g2 : (d.mode == 2) = true := by simp; omega
       have gh : (d.have_ == 0) = false := by simp; omega
       have fin := fun (tm : Array Value) (t1 : tm.getD 2 undef = .pointer (some ⟨w.heap.size + 1, 0, none⟩)) (t2 : tm.getD 3 undef = .slice ea fs.length ecap) => fin_set (e := d) (F := Tryz.f48) Tryz.results48 t1 t2 HS.out
       rw [eR] at fin
       clear h2
       by_cases hw : d.want < 1
       ·skip
        go_wp2_with (first | ((with_reducible show wpList _ _ _ (⟨_, Op.load 40 _, _, _, _, _⟩ :: _) _ _); refine wlm w.heap.size (Dc.cl d (.slice a n cap) (.slice sa ls.length scap)) (range_of_cells kA) ?_) | ((with_reducible show wpList _ _ _ (⟨_, Op.store 40 _ _, _, _, _, _⟩ :: _) _ _); refine wsr (w.heap.size + 1) (Dc.cl d (.slice a n cap) (.slice sa ls.length scap)).toArray HS.out.zero ?_))
        all_goals (refine fin _ ?_ ?_ <;> rfl)
       ·skip
        go_wp2_with (first | ((with_reducible show wpList _ _ _ (⟨_, Op.load 40 _, _, _, _, _⟩ :: _) _ _); refine wlm w.heap.size (Dc.cl d (.slice a n cap) (.slice sa ls.length scap)) (range_of_cells kA) ?_) | ((with_reducible show wpList _ _ _ (⟨_, Op.store 40 _ _, _, _, _, _⟩ :: _) _ _); refine wsr (w.heap.size + 1) (Dc.cl d (.slice a n cap) (.slice sa ls.length scap)).toArray HS.out.zero ?_))
        all_goals (refine fin _ ?_ ?_ <;> rfl)
     ·skip
      have eR := settle_end (ls := ls) (closeS_none (by omega) (by omega) (by omega)) HR1.out
      have g6 : (d.mode == 6) = false := by simp; omega
      have g7 : (d.mode == 7) = false := by simp; omega
      have g8 : (d.mode == 8) = false := by simp; omega
      have g2 : (d.mode == 2) = false := by simp; omega
      have fin := fun (tm : Array Value) (t1 : tm.getD 2 undef = .pointer (some ⟨w.heap.size + 1, 0, none⟩)) (t2 : tm.getD 3 undef = .slice ea fs.length ecap) => fin_set (e := d) (F := Tryz.f48) Tryz.results48 t1 t2 HS.out
      rw [eR] at fin
      by_cases hw : d.want < 1
      ·skip
       go_wp2_with (first | ((with_reducible show wpList _ _ _ (⟨_, Op.load 40 _, _, _, _, _⟩ :: _) _ _); refine wlm w.heap.size (Dc.cl d (.slice a n cap) (.slice sa ls.length scap)) (range_of_cells kA) ?_) | ((with_reducible show wpList _ _ _ (⟨_, Op.store 40 _ _, _, _, _, _⟩ :: _) _ _); refine wsr (w.heap.size + 1) (Dc.cl d (.slice a n cap) (.slice sa ls.length scap)).toArray HS.out.zero ?_))
       all_goals (refine fin _ ?_ ?_ <;> rfl)
      ·skip
       go_wp2_with (first | ((with_reducible show wpList _ _ _ (⟨_, Op.load 40 _, _, _, _, _⟩ :: _) _ _); refine wlm w.heap.size (Dc.cl d (.slice a n cap) (.slice sa ls.length scap)) (range_of_cells kA) ?_) | ((with_reducible show wpList _ _ _ (⟨_, Op.store 40 _ _, _, _, _, _⟩ :: _) _ _); refine wsr (w.heap.size + 1) (Dc.cl d (.slice a n cap) (.slice sa ls.length scap)).toArray HS.out.zero ?_))
       all_goals (refine fin _ ?_ ?_ <;> rfl)
theorem own_nilc2 {w : World} {base n cap size : Nat} {a : Option Addr} {t : TypeId} {xs : List Value} (h : w.ownsRow base t size (.slice a n cap) n xs) : a = none → n = 0 ∧ cap = 0 := by
 intro ha
 subst ha
 rcases h.2 with ⟨e, h0⟩ | ⟨g, cap', cur, e, _⟩
 ·simp only [Value.slice.injEq] at e; omega
 ·simp at e
set_option maxRecDepth 100000 in
set_option maxHeartbeats 1000000 in
theorem l15Tell_any (d : Dc) (a : Option Addr) (cap n : Nat) (sa : Option Addr) (scap : Nat) (ls : List Lvl) (x : Ev) (B0 : Nat) (w : World) (ho : w.ownsRow B0 67 2 (.slice sa ls.length scap) ls.length (ls.flatMap Lvl.cs)) (hB0 : B0 ≤ w.heap.size) (h8 : ls.length ≤ 8) :
  Calls Tryz.prog 46 #[d.val (.slice a n cap) (.slice sa ls.length scap), x.val] w (FreshS w B0 67 38 (.slice a n cap) (behind [x] (settle d ls))) := by
 have HO := Lib.hid ho; clear ho
 obtain ⟨i0, hi, hz0, hz1, hz2⟩ := info_parts info_EvM
 have hlen := settle_len d ls
 obtain ⟨⟨e, ms, es⟩, hE⟩ : ∃ R, R = settle d ls := ⟨_, rfl⟩
 rw [← hE] at hlen ⊢
 have HE := Lib.hid hE; clear hE
 simp only at hlen
 obtain ⟨xk, xf, xb, xl, xt, xc, xa⟩ := x
 go_enter Tryz.func46, Tryz.ntmps46
 go_wp2_with (first | ((with_reducible show wpList _ _ _ (⟨_, Op.load 40 _, _, _, _, _⟩ :: _) _ _); refine wlm w.heap.size (Dc.cl d (.slice a n cap) (.slice sa ls.length scap)) (range_of_box (t := 40) (hset_alloc (hset_alloc (hset_new rfl)))) ?_))
 have h0 := l15Settle_any d a cap n sa scap ls B0 (((w.alloc (.cells (Dc.cl d (.slice a n cap) (.slice sa ls.length scap)).toArray 40)).alloc (.cells #[.int .i64 xk, .int .i64 xf, .int .u64 xb, .int .i64 xl, .string xt, .int .i64 xc, .int .i64 xa] 38)).alloc (.cells dz0.toArray 40)) (World.ownsRow.alloc (World.ownsRow.alloc (World.ownsRow.alloc HO.out _) _) _) (by simp; omega) h8
 rw [← HE.out] at h0
 refine h0.mono ?_
 clear h0
 rintro r w1 ⟨sa1, scap1, ea1, ecap1, rfl, hp1, he1, hb1⟩
 have hz := hb1.size
 simp only [World.size_alloc] at hz he1
 have hX_ : w1.heap[w.heap.size + 1]? = some (.cells #[.int .i64 xk, .int .i64 xf, .int .u64 xb, .int .i64 xl, .string xt, .int .i64 xc, .int .i64 xa] 38 (0, 0)) := (hb1.block _ (by simp)).trans (hset_alloc (hset_new (by simp)))
 have hR_ : w1.heap[w.heap.size + 1 + 1]? = some (.cells dz0.toArray 40 (0, 0)) := (hb1.block _ (by simp)).trans (hset_new (by simp))
 have hbw : Below w.heap.size w w1 := by exact bl
 have P1 := Lib.hid hp1; clear hp1
 have P2 := Lib.hid he1; clear he1 hb1
 have hnil := own_nilc2 P2.out
 simp only
 go_wp2_with (first | ((with_reducible show wpList _ _ _ (⟨_, Op.store 40 _ _, _, _, _, _⟩ :: _) _ _); refine wsq w1.heap.size (Dc.cl e (.slice a n cap) (.slice sa1 ms.length scap1)).toArray (hset_new rfl) (one_Dec _ _ _ _ _ _ _) ?_))
 have hbx : Below w1.heap.size w1 ((w1.alloc (.cells dz0.toArray 40)).setRow w1.heap.size (Dc.cl e (.slice a n cap) (.slice sa1 ms.length scap1)).toArray) := by exact bl
 have hY_ : ((w1.alloc (.cells dz0.toArray 40)).setRow w1.heap.size (Dc.cl e (.slice a n cap) (.slice sa1 ms.length scap1)).toArray).heap[w1.heap.size]? = some (.cells (Dc.cl e (.slice a n cap) (.slice sa1 ms.length scap1)).toArray 40 (0, 0)) := hset_row (cs := dz0.toArray) (hset_new rfl)
 obtain ⟨w2, hw2⟩ : ∃ w2, w2 = (w1.alloc (.cells dz0.toArray 40)).setRow w1.heap.size (Dc.cl e (.slice a n cap) (.slice sa1 ms.length scap1)).toArray := ⟨_, rfl⟩
 rw [← hw2] at hbx hY_ ⊢
 clear hw2
 have hz2w : w.heap.size + 1 + 1 + 1 ≤ w2.heap.size := by have := hbx.size; omega
 have hX2 := Lib.hid ((hbx.block _ (by omega)).trans hX_); clear hX_
 have hR2 := Lib.hid ((hbx.block _ (by omega)).trans hR_); clear hR_
 have hY := Lib.hid hY_
 have kY := box_cells hY_; clear hY_
 have kX := box_cells hX2.out
 have Q1 := Lib.hid (owns_below P1.out (hbx.trans (Below.refl _ _).drew : Below w1.heap.size w1 w2.drew) (Nat.le_refl _)); clear P1
 have Q2 := Lib.hid (owns_below P2.out (hbx.trans (Below.refl _ _).drew : Below w1.heap.size w1 w2.drew) (Nat.le_refl _)); clear P2
 have hb2 : Below w.heap.size w w2.drew := hbw.trans ((hbx.trans (Below.refl _ _).drew : Below w1.heap.size w1 w2.drew).mono (by omega))
 refine wp_region_till (fun w' => (∀ i : Nat, w'.cell? ⟨w1.heap.size, i, none⟩ = ((Dc.cl e (.slice a n cap) (.slice sa1 ms.length scap1)).toArray : Array Value)[i]?) ∧ (∀ i : Nat, w'.cell? ⟨w.heap.size + 1, i, none⟩ = (#[.int .i64 xk, .int .i64 xf, .int .u64 xb, .int .i64 xl, .string xt, .int .i64 xc, .int .i64 xa] : Array Value)[i]?)) (fun _ => false) (by kernel_rfl) ?_
 have hS : (fun w' : World => (∀ i : Nat, w'.cell? ⟨w1.heap.size, i, none⟩ = ((Dc.cl e (.slice a n cap) (.slice sa1 ms.length scap1)).toArray : Array Value)[i]?) ∧ (∀ i : Nat, w'.cell? ⟨w.heap.size + 1, i, none⟩ = (#[.int .i64 xk, .int .i64 xf, .int .u64 xb, .int .i64 xl, .string xt, .int .i64 xc, .int .i64 xa] : Array Value)[i]?)) w2.drew := ⟨kY, kX⟩
 clear kY kX
 refine' wpTill_take (i := 0) (oi := _) (v := _) rfl (by kernel_rfl) (by kernel_rfl) (by kernel_rfl) (by kernel_rfl) (fun _ _ _ h => h) (yieldsIf_load_mid (by rfl) _ _ rfl _ _ rfl (Dc.cl e (.slice a n cap) (.slice sa1 ms.length scap1)) _ (fun wq hq => range_of_cells hq.1) Tryz.underlying40 rfl size_Dec) hS ?_
 try simp only [List.getElem_toArray, List.getElem_cons_succ, List.getElem_cons_zero, Act.put, List.setIfInBounds_toArray, List.set_cons_zero, List.set_cons_succ]
 refine' wpTill_take (i := 1) (oi := _) (v := .agg #[.int .i64 xk, .int .i64 xf, .int .u64 xb, .int .i64 xl, .string xt, .int .i64 xc, .int .i64 xa]) rfl (by kernel_rfl) (by kernel_rfl) (by kernel_rfl) (by kernel_rfl) (fun _ _ _ h => h) (yieldsIf_load_mid (by rfl) _ _ rfl _ _ rfl [.int .i64 xk, .int .i64 xf, .int .u64 xb, .int .i64 xl, .string xt, .int .i64 xc, .int .i64 xa] _ (fun wq hq => range_of_cells hq.2) Tryz.underlying38 rfl (by kernel_rfl)) hS ?_
 try simp only [List.getElem_toArray, List.getElem_cons_succ, List.getElem_cons_zero, Act.put, List.setIfInBounds_toArray, List.set_cons_zero, List.set_cons_succ]
 refine tk (i := 3) hS ?_
 refine wpTill_op (i := 2) (by kernel_rfl) rfl (fun K hK => ?_)
 go_simp
 have hbz : Below w2.heap.size w2.drew ((w2.alloc (.cells #[.int .i64 xk, .int .i64 xf, .int .u64 xb, .int .i64 xl, .string xt, .int .i64 xc, .int .i64 xa] 38)).drew) := (let h := ((Below.refl w2.heap.size w2).alloc (Nat.le_refl _) (.cells #[.int .i64 xk, .int .i64 xf, .int .u64 xb, .int .i64 xl, .string xt, .int .i64 xc, .int .i64 xa] 38)).drew; ⟨h.os, h.tape, h.output, h.size, h.block⟩)
 have hzA : ((w2.alloc (.cells #[.int .i64 xk, .int .i64 xf, .int .u64 xb, .int .i64 xl, .string xt, .int .i64 xc, .int .i64 xa] 38)).drew).heap.size = w2.heap.size + 1 := by simp
 have hB_ : ((w2.alloc (.cells #[.int .i64 xk, .int .i64 xf, .int .u64 xb, .int .i64 xl, .string xt, .int .i64 xc, .int .i64 xa] 38)).drew).ownsRow w2.heap.size 38 7 (.slice (some ⟨w2.heap.size, 0, none⟩) 1 1) 1 (⟨xk, xf, xb, xl, xt, xc, xa⟩ : Ev).cs := World.ownsRow.of_box w2 ⟨xk, xf, xb, xl, xt, xc, xa⟩ 38
 obtain ⟨w3, hw3⟩ : ∃ w3, w3 = (w2.alloc (.cells #[.int .i64 xk, .int .i64 xf, .int .u64 xb, .int .i64 xl, .string xt, .int .i64 xc, .int .i64 xa] 38)).drew := ⟨_, rfl⟩
 rw [← hw3] at hbz hB_ hzA
 have Q1b := Lib.hid (owns_below Q1.out hbz (by simp)); clear Q1; have Q1 := Q1b; clear Q1b
 have Q2b := Lib.hid (owns_below Q2.out hbz (by simp)); clear Q2; have Q2 := Q2b; clear Q2b
 have hS3 : (fun w' : World => (∀ i : Nat, w'.cell? ⟨w1.heap.size, i, none⟩ = ((Dc.cl e (.slice a n cap) (.slice sa1 ms.length scap1)).toArray : Array Value)[i]?) ∧ (∀ i : Nat, w'.cell? ⟨w.heap.size + 1, i, none⟩ = (#[.int .i64 xk, .int .i64 xf, .int .u64 xb, .int .i64 xl, .string xt, .int .i64 xc, .int .i64 xa] : Array Value)[i]?)) w3 := ⟨fun i => (hbz.cell (p := ⟨w1.heap.size, i, none⟩) (box_lt hY.out)).trans (hS.1 i), fun i => (hbz.cell (p := ⟨w.heap.size + 1, i, none⟩) (by simp only; omega)).trans (hS.2 i)⟩
 have hR3 := Lib.hid ((hbz.block _ (by omega)).trans hR2.out)
 have hb3 : Below w.heap.size w w3 := hb2.trans (hbz.mono (by omega))
 have HB := Lib.hid hB_; clear hB_
 rw [← hw3]
 clear hw3 hS
 refine hK.out _ _ (fun _ => hS3) ?_
 clear hK K
 try simp only [Act.put, List.setIfInBounds_toArray, List.set_cons_zero, List.set_cons_succ]
 have hE1 : es.length ≤ 18 := by omega
 have HN := Lib.hid (sl_newsN (w := w3) (cs := Ev.cs) (xs := es) (a := ea1) (by omega) ev_len (evs_of_own Q2.out rfl))
 refine wpTill_op (i := 4) (by kernel_rfl) rfl (fun K hK => ?_)
 refine step_append_any rfl _ _ 43 rfl w2.heap.size 38 i0 _ 7 64 Tryz.underlying43 hi hz0 hz1 hz2 rfl (by decide) _ 1 (⟨xk, xf, xb, xl, xt, xc, xa⟩ : Ev).cs rfl HB.out ea1 es.length ecap1 (es.flatMap Ev.cs) rfl hnil (by rw [flatMap_len ev_len]) HN.out (flat_one ev_one _) (by unfold maxLen; omega) (by omega) (by omega) ?_
 intro v4 w4 hown4 hgr4
 obtain ⟨ea4, ecap4, rfl, _⟩ := own_sh hown4
 have hb34 : Below w2.heap.size w3 w4 := below_grown (Below.refl _ _) hgr4 (fun g e => by have := (HB.out.lt g e).1; omega) (by omega)
 have Q1b := Lib.hid (owns_keep Q1.out hgr4 (other_own HB.out (by decide))); clear Q1; have Q1 := Q1b; clear Q1b
 have Q3 := Lib.hid hown4; clear hown4 hgr4
 have hR4 := Lib.hid ((hb34.block _ (by omega)).trans hR3.out)
 have hS4 : (fun w' : World => (∀ i : Nat, w'.cell? ⟨w1.heap.size, i, none⟩ = ((Dc.cl e (.slice a n cap) (.slice sa1 ms.length scap1)).toArray : Array Value)[i]?) ∧ (∀ i : Nat, w'.cell? ⟨w.heap.size + 1, i, none⟩ = (#[.int .i64 xk, .int .i64 xf, .int .u64 xb, .int .i64 xl, .string xt, .int .i64 xc, .int .i64 xa] : Array Value)[i]?)) w4 := ⟨fun i => (hb34.cell (p := ⟨w1.heap.size, i, none⟩) (box_lt hY.out)).trans (hS3.1 i), fun i => (hb34.cell (p := ⟨w.heap.size + 1, i, none⟩) (by simp only; omega)).trans (hS3.2 i)⟩
 have hb4 : Below w.heap.size w w4 := hb3.trans (hb34.mono (by omega))
 refine hK.out _ _ (fun _ => hS4) ?_
 clear hK K hS3 HN
 try simp only [Act.put, List.setIfInBounds_toArray, List.set_cons_zero, List.set_cons_succ]
 refine wpTill_op (i := 5) (by kernel_rfl) rfl (fun K hK => ?_)
 refine step_store_row rfl 40 _ _ rfl (w.heap.size + 1 + 1) (Dc.cl e (.slice a n cap) (.slice sa1 ms.length scap1)).toArray rfl rfl 40 dz0.toArray hR4.out size_Dec rfl (by simp [Value.oneCell']) ?_
 have hS5 : (fun w' : World => (∀ i : Nat, w'.cell? ⟨w1.heap.size, i, none⟩ = ((Dc.cl e (.slice a n cap) (.slice sa1 ms.length scap1)).toArray : Array Value)[i]?) ∧ (∀ i : Nat, w'.cell? ⟨w.heap.size + 1, i, none⟩ = (#[.int .i64 xk, .int .i64 xf, .int .u64 xb, .int .i64 xl, .string xt, .int .i64 xc, .int .i64 xa] : Array Value)[i]?)) (w4.setRow (w.heap.size + 1 + 1) (Dc.cl e (.slice a n cap) (.slice sa1 ms.length scap1)).toArray) := ⟨fun i => (World.cell?_of_block (a := ⟨w1.heap.size, i, none⟩) (setRow_other _ _ _ _ (by simp; omega))).trans (hS4.1 i), fun i => (World.cell?_of_block (a := ⟨w.heap.size + 1, i, none⟩) (setRow_other _ _ _ _ (by simp))).trans (hS4.2 i)⟩
 refine hK.out _ _ (fun _ => hS5) ?_
 clear hK K
 try simp only [Act.put, List.setIfInBounds_toArray, List.set_cons_zero, List.set_cons_succ]
 refine wpTill_op (i := 6) (by kernel_rfl) rfl (fun K hK => ?_)
 go_simp
 refine hK.out _ _ (fun _ => hS5) ?_
 clear hK K
 refine wpTill_done (by kernel_rfl) ?_ _
 go_wp2
 have hl2 : (⟨xk, xf, xb, xl, xt, xc, xa⟩ :: es : List Ev).length = 1 + es.length := by simp; omega
 refine bodyPost_ret (results_cell_tmp Tryz.results46 rfl rfl (run_loadVar_mid (w4.setRow (w.heap.size + 1 + 1) (Dc.cl e (.slice a n cap) (.slice sa1 ms.length scap1)).toArray) (w.heap.size + 1 + 1) 0 40 (Dc.cl e (.slice a n cap) (.slice sa1 ms.length scap1)) _ (range_of_box (t := 40) (hset_row (cs := dz0.toArray) hR4.out)) Tryz.underlying40 rfl size_Dec)) rfl ⟨sa1, scap1, ea4, ecap4, ?_, ?_, ?_, ?_⟩
 ·simp only [behind, List.cons_append, List.nil_append, hl2]; rfl
 ·exact owns_keep Q1.out (only_row _ _ _) (other_box hR4.out (by decide))
 ·simp only [behind, List.cons_append, List.nil_append, hl2, List.flatMap_cons]
  exact owns_le (owns_setRow Q3.out (by omega) _) (by omega)
 ·exact bl
end Go.Proofs.YtabdjimjelfbfaaGreat

/- Settling: the program. (Printed by wip/tools/closegen.py.) -/
import Derived.Test.YtigmdaiecdoimaaMach
namespace Go.Proofs.Ytigmdaiecdoimaa
set_option linter.unusedSimpArgs false
set_option linter.unusedVariables false
open Go.ChangeShapes Go.WideShapes Go.ChangeAt Go.RowKit Go.BigFrame

theorem own_lecap {w : World} {base n cap size : Nat} {t : TypeId} {a : Option Addr} {L : List Value} (h : w.ownsRow base t size (.slice a n cap) n L) : n ≤ cap := by
  rcases h.2 with ⟨e, h0⟩ | ⟨g, c, cur, e, _, _, hc, _⟩
  · simp only [Value.slice.injEq] at e; omega
  · simp only [Value.slice.injEq] at e; omega
theorem own_pop {w : World} {base m cap : Nat} {t : TypeId} {a : Option Addr} {ls : List Lvl} (h : w.ownsRow base t 2 (.slice a (m + 1) cap) (m + 1) (ls.flatMap Lvl.cs)) (hl : ls.length = m + 1) : w.ownsRow base t 2 (.slice a m cap) m (ls.dropLast.flatMap Lvl.cs) := by
  refine ⟨by rw [flatMap_len lvl_len]; simp [hl], ?_⟩
  rcases h.2 with ⟨e, h0⟩ | ⟨g, c, cur, e, h1, h2, hc, h3, h4, h5⟩
  · omega
  · simp only [Value.slice.injEq] at e
    obtain ⟨e1, _, e3⟩ := e
    subst e1; subst e3
    refine .inr ⟨g, cap, cur, rfl, h1, h2, by omega, h3, h4, ?_⟩
    have h6 : (ls.flatMap Lvl.cs) = ls.dropLast.flatMap Lvl.cs ++ (ls.drop m).flatMap Lvl.cs := by
      rw [← List.flatMap_append, List.dropLast_eq_take, hl, Nat.add_sub_cancel, List.take_append_drop]
    have h7 : cur.toList.take (m * 2) = (cur.toList.take ((m + 1) * 2)).take (m * 2) := by rw [List.take_take]; congr 1; omega
    rw [h7, h5, h6]
    have h8 : (ls.dropLast.flatMap Lvl.cs).length = m * 2 := by rw [flatMap_len lvl_len]; simp [hl]
    rw [← h8, List.take_left]
theorem MachI.pop {base M m : Nat} {w0 w w' : World} {d : Dc} {xs : List Shp} {ls : List Lvl} {es : List Ev} {a sa ea : Option Addr} {cap scap ecap : Nat} {rs : List ShR}
    (h : MachI base w0 w M d xs ls es a cap rs sa scap ea ecap) (hl : ls.length = m + 1) (hg : w.grownBy w' (some M))
    (hb : w'.heap[M]? = some (.cells #[.slice a xs.length cap, .int .i64 d.p.root, .int .i64 d.p.deep, .int .i64 d.p.most, .int .i64 d.mode, .slice sa m scap, .int .u64 d.bits, .int .i64 d.have_, .int .i64 d.start, .int .i64 d.at_, .int .i64 d.field.number, .int .i64 d.field.kind, .bool d.field.rep, .bool d.field.packed, .int .i64 d.field.msg, .int .i64 d.wire, .int .i64 d.want, .int .i64 d.utf.want, .int .i64 d.utf.low, .int .i64 d.utf.high, .int .i64 d.end_.kind, .int .i64 d.end_.field, .int .u64 d.end_.bits, .int .i64 d.end_.len, .string d.end_.text, .int .i64 d.end_.code, .int .i64 d.end_.at_, .slice ea es.length ecap] 183 (0, 0))) : MachI base w0 w' M d xs ls.dropLast es a cap rs sa scap ea ecap where
  box := by rw [hb]; simp [hl]
  sh := h.sh.keepBy hg (other_box h.box (by decide)) (other_box h.box (by decide))
  lv := by
    have h0 := owns_keep h.lv hg (other_box h.box (by decide))
    rw [hl] at h0
    have h1 := own_pop h0 hl
    simpa [hl] using h1
  ev := owns_keep h.ev hg (other_box h.box (by decide))
  bel := h.below' hg (fun g e => by obtain rfl := Option.some.inj e; exact h.le)
  le := h.le
  bz := Nat.le_trans h.bz hg.size
section
variable {d : Dc} {ls : List Lvl}
theorem closeS_utf (h6 : d.mode = 6) (hw : d.want < 1) (hu : 0 < d.utf.want) : closeS d ls = some (failD d 5 d.at_, ls, [failE 5 d.at_]) := by unfold closeS; rw [if_pos ⟨h6, hw⟩, if_pos hu]
theorem closeS_shut (h6 : d.mode = 6) (hw : d.want < 1) (hu : ¬ 0 < d.utf.want) : closeS d ls = some (shutD d, ls, [evK 5]) := by unfold closeS; rw [if_pos ⟨h6, hw⟩, if_neg hu]
theorem closeS_m0 (h6 : ¬ d.mode = 6) (h7 : d.mode = 7 ∨ d.mode = 8 ∧ d.have_ = 0) (hw : d.want < 1) : closeS d ls = some (mode0 d 2, ls, []) := by unfold closeS; rw [if_neg (fun h => h6 h.1), if_pos ⟨h7, hw⟩]
theorem closeS_one (h2 : d.mode = 2) (hh : d.have_ = 0) (ht : topL ls = 0) (hl : ls.length = 1) : closeS d ls = some (modeD d 1, [], [evK 8]) := by
  unfold closeS; rw [if_neg (by omega), if_neg (by omega), if_pos ⟨h2, hh, by omega, ht⟩, if_pos hl]
theorem closeS_up (h2 : d.mode = 2) (hh : d.have_ = 0) (ht : topL ls = 0) (hl : 1 < ls.length) : closeS d ls = some (d, ls.dropLast, [evK 7]) := by
  unfold closeS; rw [if_neg (by omega), if_neg (by omega), if_pos ⟨h2, hh, by omega, ht⟩, if_neg (by omega)]
theorem closeS_none (h1 : ¬ (d.mode = 6 ∧ d.want < 1)) (h2 : ¬ ((d.mode = 7 ∨ d.mode = 8 ∧ d.have_ = 0) ∧ d.want < 1)) (h3 : ¬ (d.mode = 2 ∧ d.have_ = 0 ∧ 0 < ls.length ∧ topL ls = 0)) : closeS d ls = none := by
  unfold closeS; rw [if_neg h1, if_neg h2, if_neg h3]
end
set_option maxRecDepth 100000 in
set_option maxHeartbeats 6000000 in
theorem close_any (base : Nat) (w0 w : World) (M : Nat) (d : Dc) (xs : List Shp) (ls : List Lvl) (es : List Ev) (hm : Mach base w0 w M d xs ls es) (hes : es.length ≤ 1048576) (hn : xs.length ≤ 1048576) (hm2 : fldSum xs ≤ 1048576) (hm' : ls.length ≤ 1048576) :
    Calls Try.prog 163 #[.pointer (some ⟨M, 0, none⟩)] w fun r w' => (closeS d ls = none ∧ r = .returned (.bool false) ∧ Mach base w0 w' M d xs ls es) ∨ ∃ d' ls' fs, closeS d ls = some (d', ls', fs) ∧ r = .returned (.bool true) ∧ Mach base w0 w' M d' xs ls' (es ++ fs) := by
  obtain ⟨a, cap, rs, sa, scap, ea, ecap, hm⟩ := hm
  have HM := Lib.hid hm; clear hm
  have kM := box_cells HM.out.box; have fM := box_frozen HM.out.box; have hBM := HM.out.lt
  go_enter Try.func163, Try.ntmps163
  by_cases hall : ¬ d.mode = 6 ∧ ¬ d.mode = 7 ∧ ¬ d.mode = 8 ∧ d.mode = 2 ∧ d.have_ = 0 ∧ 0 < ls.length
  · obtain ⟨h6, h7, h8, h2, hh, hl⟩ := hall
    have g6 : (d.mode == 6) = false := by simp [h6]
    have g7 : (d.mode == 7) = false := by simp [h7]
    have g8 : (d.mode == 8) = false := by simp [h8]
    have g2 : (d.mode == 2) = true := by simp [h2]
    have gh : (d.have_ == 0) = true := by simp [hh]
    have H2m := Lib.hid h2; clear h2
    have HHh := Lib.hid hh; clear hh
    have hlI : (0 : Int) < (ls.length : Int) := by omega
    have hlD : decide ((0 : Int) < (ls.length : Int)) = true := by simp; omega
    go_wp2_with (first | ((with_reducible show wpList _ _ _ (⟨_, Op.load 69 _, _, _, _, _⟩ :: _) _ _); refine wpList_load_want 69 (.tmp 116) rfl rfl M 0 rfl [.slice a xs.length cap, .int .i64 d.p.root, .int .i64 d.p.deep, .int .i64 d.p.most, .int .i64 d.mode, .slice sa ls.length scap, .int .u64 d.bits, .int .i64 d.have_, .int .i64 d.start, .int .i64 d.at_, .int .i64 d.field.number, .int .i64 d.field.kind, .bool d.field.rep, .bool d.field.packed, .int .i64 d.field.msg, .int .i64 d.wire, .int .i64 d.want, .int .i64 d.utf.want, .int .i64 d.utf.low, .int .i64 d.utf.high, .int .i64 d.end_.kind, .int .i64 d.end_.field, .int .u64 d.end_.bits, .int .i64 d.end_.len, .string d.end_.text, .int .i64 d.end_.code, .int .i64 d.end_.at_] _ (fun j u hj => (kM (0 + j)).trans (by rw [Nat.zero_add, List.getElem?_toArray]; exact pre_at hj)) Try.underlying69 rfl size_Dec ?_))
    refine (implTop_any d a cap _ xs sa scap _ ls _ HM.out.sh.shs (lvls_of_own HM.out.lv rfl) rfl rfl hn hm2 hm').mono ?_
    rintro r w1 ⟨rfl, hb1⟩
    have H1 := Lib.hid (HM.out.keep hb1); clear hb1 kM fM hBM HM
    have HM := H1; clear H1
    have kM := box_cells HM.out.box; have fM := box_frozen HM.out.box; have hBM := HM.out.lt
    by_cases ht : topL ls = 0
    · obtain ⟨m, hml⟩ : ∃ m, ls.length = m + 1 := ⟨ls.length - 1, by omega⟩
      have hcap : ls.length ≤ scap := own_lecap HM.out.lv
      rw [hml] at hcap kM
      have c5 : w1.cell? ⟨M, 5, none⟩ = some (.slice sa (m + 1) scap) := kM 5
      have hmw : IntKind.i64.wrap (m : Int) = m := IntWalk.i64_in _ (by omega)
      have hms : (m : Int) ≤ (scap : Int) := by omega
      have hm0 : (0 : Int) ≤ (m : Int) := by omega
      have hdec : decide (m = 0) = (m == 0) := rfl
      go_wp2_with fail
      refine wp_region_till (Cells [(⟨M, 5, none⟩, .slice sa (m + 1) scap)]) (fun i => decide (17 ≤ i)) (by kernel_rfl) ?_
      have hS : Cells [(⟨M, 5, none⟩, .slice sa (m + 1) scap)] w1.drew := cells_mk c5 (cells_no _)
      refine wpTill_take (i := 0) (v := ?v0_1) rfl (by kernel_rfl) (by kernel_rfl) (by kernel_rfl) (by kernel_rfl) (fun _ _ _ h => h) (Or.inl ⟨by rfl, ?y0_1⟩) hS ?r0_1
      case y0_1 => (intro wq hq; (try simp only [cells_cons, cells_nil, and_true] at hq); first | (go_simp; done) | (go_simp; with_reducible rfl) | (obtain ⟨hq1, hq2⟩ := hq; go_simp; with_reducible rfl))
      try simp only [List.getElem_toArray, List.getElem_cons_succ, List.getElem_cons_zero, Act.put, List.setIfInBounds_toArray, List.set_cons_zero, List.set_cons_succ]
      refine wpTill_take (i := 1) (v := ?v1_2) rfl (by kernel_rfl) (by kernel_rfl) (by kernel_rfl) (by kernel_rfl) (fun _ _ _ h => h) (Or.inl ⟨by rfl, ?y1_2⟩) hS ?r1_2
      case y1_2 => (intro wq hq; (try simp only [cells_cons, cells_nil, and_true] at hq); first | (go_simp; done) | (go_simp; with_reducible rfl) | (obtain ⟨hq1, hq2⟩ := hq; go_simp; with_reducible rfl))
      try simp only [List.getElem_toArray, List.getElem_cons_succ, List.getElem_cons_zero, Act.put, List.setIfInBounds_toArray, List.set_cons_zero, List.set_cons_succ]
      refine wpTill_take (i := 2) (v := ?v2_3) rfl (by kernel_rfl) (by kernel_rfl) (by kernel_rfl) (by kernel_rfl) (fun _ _ _ h => h) (Or.inl ⟨by rfl, ?y2_3⟩) hS ?r2_3
      case y2_3 => (intro wq hq; (try simp only [cells_cons, cells_nil, and_true] at hq); first | (go_simp; done) | (go_simp; with_reducible rfl) | (obtain ⟨hq1, hq2⟩ := hq; go_simp; with_reducible rfl))
      try simp only [List.getElem_toArray, List.getElem_cons_succ, List.getElem_cons_zero, Act.put, List.setIfInBounds_toArray, List.set_cons_zero, List.set_cons_succ]
      refine wpTill_take (i := 3) (v := ?v3_4) rfl (by kernel_rfl) (by kernel_rfl) (by kernel_rfl) (by kernel_rfl) (fun _ _ _ h => h) (Or.inl ⟨by rfl, ?y3_4⟩) hS ?r3_4
      case y3_4 => (intro wq hq; (try simp only [cells_cons, cells_nil, and_true] at hq); first | (go_simp; done) | (go_simp; with_reducible rfl) | (obtain ⟨hq1, hq2⟩ := hq; go_simp; with_reducible rfl))
      try simp only [List.getElem_toArray, List.getElem_cons_succ, List.getElem_cons_zero, Act.put, List.setIfInBounds_toArray, List.set_cons_zero, List.set_cons_succ]
      refine wpTill_take (i := 4) (v := ?v4_5) rfl (by kernel_rfl) (by kernel_rfl) (by kernel_rfl) (by kernel_rfl) (fun _ _ _ h => h) (Or.inl ⟨by rfl, ?y4_5⟩) hS ?r4_5
      case y4_5 => (intro wq hq; (try simp only [cells_cons, cells_nil, and_true] at hq); first | (go_simp; done) | (go_simp; with_reducible rfl) | (obtain ⟨hq1, hq2⟩ := hq; go_simp; with_reducible rfl))
      try simp only [List.getElem_toArray, List.getElem_cons_succ, List.getElem_cons_zero, Act.put, List.setIfInBounds_toArray, List.set_cons_zero, List.set_cons_succ]
      refine wpTill_take (i := 5) (v := ?v5_6) rfl (by kernel_rfl) (by kernel_rfl) (by kernel_rfl) (by kernel_rfl) (fun _ _ _ h => h) (Or.inl ⟨by rfl, ?y5_6⟩) hS ?r5_6
      case y5_6 => (intro wq hq; (try simp only [cells_cons, cells_nil, and_true] at hq); first | (go_simp; done) | (go_simp; with_reducible rfl) | (obtain ⟨hq1, hq2⟩ := hq; go_simp; with_reducible rfl))
      try simp only [List.getElem_toArray, List.getElem_cons_succ, List.getElem_cons_zero, Act.put, List.setIfInBounds_toArray, List.set_cons_zero, List.set_cons_succ]
      refine wpTill_take (i := 6) (v := ?v6_7) rfl (by kernel_rfl) (by kernel_rfl) (by kernel_rfl) (by kernel_rfl) (fun _ _ _ h => h) (Or.inl ⟨by rfl, ?y6_7⟩) hS ?r6_7
      case y6_7 => (intro wq hq; (try simp only [cells_cons, cells_nil, and_true] at hq); first | (go_simp; done) | (go_simp; with_reducible rfl) | (obtain ⟨hq1, hq2⟩ := hq; go_simp; with_reducible rfl))
      try simp only [List.getElem_toArray, List.getElem_cons_succ, List.getElem_cons_zero, Act.put, List.setIfInBounds_toArray, List.set_cons_zero, List.set_cons_succ]
      refine wpTill_take (i := 7) (v := ?v7_8) rfl (by kernel_rfl) (by kernel_rfl) (by kernel_rfl) (by kernel_rfl) (fun _ _ _ h => h) (Or.inl ⟨by rfl, ?y7_8⟩) hS ?r7_8
      case y7_8 => (intro wq hq; (try simp only [cells_cons, cells_nil, and_true] at hq); first | (go_simp; done) | (go_simp; with_reducible rfl) | (obtain ⟨hq1, hq2⟩ := hq; go_simp; with_reducible rfl))
      try simp only [List.getElem_toArray, List.getElem_cons_succ, List.getElem_cons_zero, Act.put, List.setIfInBounds_toArray, List.set_cons_zero, List.set_cons_succ]
      refine wpTill_take (i := 8) (v := ?v8_9) rfl (by kernel_rfl) (by kernel_rfl) (by kernel_rfl) (by kernel_rfl) (fun _ _ _ h => h) (Or.inl ⟨by rfl, ?y8_9⟩) hS ?r8_9
      case y8_9 => (intro wq hq; (try simp only [cells_cons, cells_nil, and_true] at hq); first | (go_simp; done) | (go_simp; with_reducible rfl) | (obtain ⟨hq1, hq2⟩ := hq; go_simp; with_reducible rfl))
      try simp only [List.getElem_toArray, List.getElem_cons_succ, List.getElem_cons_zero, Act.put, List.setIfInBounds_toArray, List.set_cons_zero, List.set_cons_succ]
      refine wpTill_take (i := 9) (v := ?v9_10) rfl (by kernel_rfl) (by kernel_rfl) (by kernel_rfl) (by kernel_rfl) (fun _ _ _ h => h) (Or.inl ⟨by rfl, ?y9_10⟩) hS ?r9_10
      case y9_10 => (intro wq hq; (try simp only [cells_cons, cells_nil, and_true] at hq); first | (go_simp; done) | (go_simp; with_reducible rfl) | (obtain ⟨hq1, hq2⟩ := hq; go_simp; with_reducible rfl))
      try simp only [List.getElem_toArray, List.getElem_cons_succ, List.getElem_cons_zero, Act.put, List.setIfInBounds_toArray, List.set_cons_zero, List.set_cons_succ]
      refine wpTill_take (i := 10) (v := ?v10_11) rfl (by kernel_rfl) (by kernel_rfl) (by kernel_rfl) (by kernel_rfl) (fun _ _ _ h => h) (Or.inl ⟨by rfl, ?y10_11⟩) hS ?r10_11
      case y10_11 => (intro wq hq; (try simp only [cells_cons, cells_nil, and_true] at hq); first | (go_simp; done) | (go_simp; with_reducible rfl) | (obtain ⟨hq1, hq2⟩ := hq; go_simp; with_reducible rfl))
      try simp only [List.getElem_toArray, List.getElem_cons_succ, List.getElem_cons_zero, Act.put, List.setIfInBounds_toArray, List.set_cons_zero, List.set_cons_succ]
      refine wpTill_take (i := 11) (v := ?v11_12) rfl (by kernel_rfl) (by kernel_rfl) (by kernel_rfl) (by kernel_rfl) (fun _ _ _ h => h) (Or.inl ⟨by rfl, ?y11_12⟩) hS ?r11_12
      case y11_12 => (intro wq hq; (try simp only [cells_cons, cells_nil, and_true] at hq); first | (go_simp; done) | (go_simp; with_reducible rfl) | (obtain ⟨hq1, hq2⟩ := hq; go_simp; with_reducible rfl))
      try simp only [List.getElem_toArray, List.getElem_cons_succ, List.getElem_cons_zero, Act.put, List.setIfInBounds_toArray, List.set_cons_zero, List.set_cons_succ]
      refine wpTill_take (i := 12) (v := ?v12_13) rfl (by kernel_rfl) (by kernel_rfl) (by kernel_rfl) (by kernel_rfl) (fun _ _ _ h => h) (Or.inl ⟨by rfl, ?y12_13⟩) hS ?r12_13
      case y12_13 => (intro wq hq; (try simp only [cells_cons, cells_nil, and_true] at hq); first | (go_simp; done) | (go_simp; with_reducible rfl) | (obtain ⟨hq1, hq2⟩ := hq; go_simp; with_reducible rfl))
      try simp only [List.getElem_toArray, List.getElem_cons_succ, List.getElem_cons_zero, Act.put, List.setIfInBounds_toArray, List.set_cons_zero, List.set_cons_succ]
      refine wpTill_take (i := 13) (v := ?vq) rfl (by kernel_rfl) (by kernel_rfl) (by kernel_rfl) (by kernel_rfl) (fun _ _ _ h => h) (Or.inl ⟨by rfl, ?yq⟩) hS ?rq
      case yq => (intro wq hq; (try simp only [cells_cons, cells_nil, and_true] at hq); go_simp; with_reducible rfl)
      try simp only [List.getElem_toArray, List.getElem_cons_succ, List.getElem_cons_zero, Act.put, List.setIfInBounds_toArray, List.set_cons_zero, List.set_cons_succ]
      refine wpTill_op (i := 14) (by kernel_rfl) rfl (fun K hK => ?_)
      go_simp
      refine hK.out _ _ (fun _ => hS) ?_
      clear hK K
      try simp only [List.getElem_toArray, List.getElem_cons_succ, List.getElem_cons_zero, Act.put, List.setIfInBounds_toArray, List.set_cons_zero, List.set_cons_succ]
      refine wpTill_op (i := 15) (by kernel_rfl) rfl (fun K hK => ?_)
      go_simp
      refine hK.out _ _ (fun _ => hS) ?_
      clear hK K
      try simp only [List.getElem_toArray, List.getElem_cons_succ, List.getElem_cons_zero, Act.put, List.setIfInBounds_toArray, List.set_cons_zero, List.set_cons_succ]
      refine wpTill_op (i := 16) (by kernel_rfl) rfl (fun K hK => ?_)
      go_simp
      refine hK.out _ _ (fun _ => hS) ?_
      clear hK K
      try simp only [List.getElem_toArray, List.getElem_cons_succ, List.getElem_cons_zero, Act.put, List.setIfInBounds_toArray, List.set_cons_zero, List.set_cons_succ]
      refine wpTill_op (i := 17) (by kernel_rfl) rfl (fun K hK => ?_)
      go_simp
      refine hK.out _ _ (fun e => by cases e) ?_
      clear hK K
      refine wpTill_done (by kernel_rfl) ?_ _
      generalize hw2 : World.drew (World.setCell _ (⟨M, 5, none⟩ : Addr) (.slice sa m scap)) = w2
      have hB2 : w2.heap[M]? = some (.cells #[.slice a xs.length cap, .int .i64 d.p.root, .int .i64 d.p.deep, .int .i64 d.p.most, .int .i64 d.mode, .slice sa m scap, .int .u64 d.bits, .int .i64 d.have_, .int .i64 d.start, .int .i64 d.at_, .int .i64 d.field.number, .int .i64 d.field.kind, .bool d.field.rep, .bool d.field.packed, .int .i64 d.field.msg, .int .i64 d.wire, .int .i64 d.want, .int .i64 d.utf.want, .int .i64 d.utf.low, .int .i64 d.utf.high, .int .i64 d.end_.kind, .int .i64 d.end_.field, .int .u64 d.end_.bits, .int .i64 d.end_.len, .string d.end_.text, .int .i64 d.end_.code, .int .i64 d.end_.at_, .slice ea es.length ecap] 183 (0, 0)) := by rw [← hw2]; apply hset_eq; (repeat (first | (with_reducible exact HM.out.box) | (with_reducible apply hset_set) | (with_reducible apply hset_drew))); simp only [List.setIfInBounds_toArray, List.set_cons_zero, List.set_cons_succ]
      have hG2 : w1.grownBy w2 (some M) := by rw [← hw2]; (repeat (first | (with_reducible refine only_cell ?_ _ _) | (with_reducible refine only_drew ?_))); with_reducible exact only_refl _ _
      clear hw2
      have H2 := Lib.hid (HM.out.pop hml hG2 hB2)
      clear HM kM fM hBM hS c5 hB2 hG2
      have HM := H2; clear H2
      have kM := box_cells HM.out.box; have fM := box_frozen HM.out.box; have hBM := HM.out.lt
      have hdl : ls.dropLast.length = m := by simp [hml]
      rw [hdl] at kM
      by_cases hm0' : m = 0
      · subst hm0'
        go_wp2_with fail
        generalize hw3 : World.setCell _ (⟨M, 4, none⟩ : Addr) (.int .i64 1) = w3
        have hB3 : w3.heap[M]? = some (.cells #[.slice a xs.length cap, .int .i64 d.p.root, .int .i64 d.p.deep, .int .i64 d.p.most, .int .i64 (1), .slice sa ls.dropLast.length scap, .int .u64 d.bits, .int .i64 d.have_, .int .i64 d.start, .int .i64 d.at_, .int .i64 d.field.number, .int .i64 d.field.kind, .bool d.field.rep, .bool d.field.packed, .int .i64 d.field.msg, .int .i64 d.wire, .int .i64 d.want, .int .i64 d.utf.want, .int .i64 d.utf.low, .int .i64 d.utf.high, .int .i64 d.end_.kind, .int .i64 d.end_.field, .int .u64 d.end_.bits, .int .i64 d.end_.len, .string d.end_.text, .int .i64 d.end_.code, .int .i64 d.end_.at_, .slice ea es.length ecap] 183 (0, 0)) := by rw [← hw3]; apply hset_eq; (repeat (first | (with_reducible exact HM.out.box) | (with_reducible apply hset_set) | (with_reducible apply hset_drew))); simp only [List.setIfInBounds_toArray, List.set_cons_zero, List.set_cons_succ]
        have hG3 : w2.grownBy w3 (some M) := by rw [← hw3]; (repeat (first | (with_reducible refine only_cell ?_ _ _) | (with_reducible refine only_drew ?_))); with_reducible exact only_refl _ _
        clear hw3
        have H3 : MachI base w0 w3 M (modeD d 1) xs ls.dropLast es a cap rs sa scap ea ecap := HM.out.upd hG3 hB3
        have hln : ls.dropLast = [] := List.eq_nil_of_length_eq_zero hdl
        refine (emit_any base w0 _ M (modeD d 1) xs ls.dropLast es (evK 8) ⟨a, cap, rs, sa, scap, ea, ecap, H3⟩ hes).mono ?_
        rintro r w4 ⟨rfl, h4⟩
        rw [hln] at h4
        have H4 := Lib.hid h4; clear h4 kM fM
        go_wp2
        go_ret
        exact .inr ⟨modeD d 1, [], [evK 8], closeS_one H2m.out HHh.out ht (by omega), rfl, H4.out⟩
      · have hmp : (0 : Int) < (m : Int) := by omega
        have hmd : decide ((0 : Int) < (m : Int)) = true := by simp; omega
        go_wp2_with fail
        refine (emit_any base w0 _ M d xs ls.dropLast es (evK 7) ⟨a, cap, rs, sa, scap, ea, ecap, HM.out⟩ hes).mono ?_
        rintro r w3 ⟨rfl, h3⟩
        have H3 := Lib.hid h3; clear h3 kM fM
        go_wp2
        go_ret
        exact .inr ⟨d, ls.dropLast, [evK 7], closeS_up H2m.out HHh.out ht (by omega), rfl, H3.out⟩
    · skip
      go_wp2_with fail
      go_ret
      exact .inl ⟨closeS_none (by omega) (by omega) (by omega), rfl, a, cap, rs, sa, scap, ea, ecap, HM.out⟩
  · skip
    by_cases h6 : d.mode = 6
    · by_cases hw : d.want < 1
      · by_cases hu : 0 < d.utf.want
        · go_wp2_with fail
          refine (fails_any base w0 _ M d xs ls es 5 d.at_ ⟨a, cap, rs, sa, scap, ea, ecap, HM.out⟩ hes).mono ?_
          rintro r w3 ⟨rfl, h3⟩
          have H3 := Lib.hid h3; clear h3
          clear kM fM
          go_wp2
          go_ret
          exact .inr ⟨failD d 5 d.at_, ls, [failE 5 d.at_], closeS_utf h6 hw hu, rfl, H3.out⟩
        · go_wp2_with fail
          generalize hw2 : World.setCell _ (⟨M, 16, none⟩ : Addr) (.int .i64 0) = w2
          have hB2 : w2.heap[M]? = some (.cells #[.slice a xs.length cap, .int .i64 d.p.root, .int .i64 d.p.deep, .int .i64 d.p.most, .int .i64 (2), .slice sa ls.length scap, .int .u64 d.bits, .int .i64 d.have_, .int .i64 d.start, .int .i64 d.at_, .int .i64 d.field.number, .int .i64 d.field.kind, .bool d.field.rep, .bool d.field.packed, .int .i64 d.field.msg, .int .i64 d.wire, .int .i64 (0), .int .i64 (0), .int .i64 (0), .int .i64 (0), .int .i64 d.end_.kind, .int .i64 d.end_.field, .int .u64 d.end_.bits, .int .i64 d.end_.len, .string d.end_.text, .int .i64 d.end_.code, .int .i64 d.end_.at_, .slice ea es.length ecap] 183 (0, 0)) := by rw [← hw2]; apply hset_eq; (repeat (first | (with_reducible exact HM.out.box) | (with_reducible apply hset_set))); simp only [List.setIfInBounds_toArray, List.set_cons_zero, List.set_cons_succ]
          have hG2 : w.grownBy w2 (some M) := by rw [← hw2]; (repeat (with_reducible refine only_cell ?_ _ _)); exact only_refl _ _
          clear hw2
          have H2 : MachI base w0 w2 M (shutD d) xs ls es a cap rs sa scap ea ecap := HM.out.upd hG2 hB2
          refine (emit_any base w0 w2 M (shutD d) xs ls es (evK 5) ⟨a, cap, rs, sa, scap, ea, ecap, H2⟩ hes).mono ?_
          rintro r w3 ⟨rfl, h3⟩
          have H3 := Lib.hid h3; clear h3 kM fM
          go_wp2
          go_ret
          exact .inr ⟨shutD d, ls, [evK 5], closeS_shut h6 hw (by omega), rfl, H3.out⟩
      · go_wp2_with fail
        go_ret
        exact .inl ⟨closeS_none (by omega) (by omega) (by omega), rfl, a, cap, rs, sa, scap, ea, ecap, HM.out⟩
    · by_cases h7 : d.mode = 7
      · by_cases hw : d.want < 1
        · skip
          have H2 : MachI base w0 ((w.setCell ⟨M, 4, none⟩ (.int .i64 2)).setCell ⟨M, 16, none⟩ (.int .i64 0)) M (mode0 d 2) xs ls es a cap rs sa scap ea ecap := HM.out.upd (by (repeat (with_reducible refine only_cell ?_ _ _)); exact only_refl _ _) (by apply hset_eq; (repeat (first | (with_reducible exact HM.out.box) | (with_reducible apply hset_set))); simp only [List.setIfInBounds_toArray, List.set_cons_zero, List.set_cons_succ]; rfl)
          have H3 := Lib.hid H2; clear H2
          go_wp2_with fail
          go_ret
          exact .inr ⟨mode0 d 2, ls, [], closeS_m0 (by omega) (by omega) hw, rfl, a, cap, rs, sa, scap, ea, ecap, by rw [List.append_nil]; exact H3.out⟩
        · skip
          go_wp2_with fail
          go_ret
          exact .inl ⟨closeS_none (by omega) (by omega) (by omega), rfl, a, cap, rs, sa, scap, ea, ecap, HM.out⟩
      · by_cases h8 : d.mode = 8
        · by_cases hh : d.have_ = 0
          · by_cases hw : d.want < 1
            · skip
              have H2 : MachI base w0 ((w.setCell ⟨M, 4, none⟩ (.int .i64 2)).setCell ⟨M, 16, none⟩ (.int .i64 0)) M (mode0 d 2) xs ls es a cap rs sa scap ea ecap := HM.out.upd (by (repeat (with_reducible refine only_cell ?_ _ _)); exact only_refl _ _) (by apply hset_eq; (repeat (first | (with_reducible exact HM.out.box) | (with_reducible apply hset_set))); simp only [List.setIfInBounds_toArray, List.set_cons_zero, List.set_cons_succ]; rfl)
              have H3 := Lib.hid H2; clear H2
              go_wp2_with fail
              go_ret
              exact .inr ⟨mode0 d 2, ls, [], closeS_m0 (by omega) (by omega) hw, rfl, a, cap, rs, sa, scap, ea, ecap, by rw [List.append_nil]; exact H3.out⟩
            · skip
              go_wp2_with fail
              go_ret
              exact .inl ⟨closeS_none (by omega) (by omega) (by omega), rfl, a, cap, rs, sa, scap, ea, ecap, HM.out⟩
          · skip
            go_wp2_with fail
            go_ret
            exact .inl ⟨closeS_none (by omega) (by omega) (by omega), rfl, a, cap, rs, sa, scap, ea, ecap, HM.out⟩
        · by_cases h2 : d.mode = 2
          · by_cases hh : d.have_ = 0
            · by_cases hl : 0 < ls.length
              · exact absurd ⟨h6, h7, h8, h2, hh, hl⟩ hall
              · have hl0 : ls.length = 0 := by omega
                go_wp2_with fail
                go_ret
                exact .inl ⟨closeS_none (by omega) (by omega) (by omega), rfl, a, cap, rs, sa, scap, ea, ecap, HM.out⟩
            · skip
              go_wp2_with fail
              go_ret
              exact .inl ⟨closeS_none (by omega) (by omega) (by omega), rfl, a, cap, rs, sa, scap, ea, ecap, HM.out⟩
          · skip
            go_wp2_with fail
            go_ret
            exact .inl ⟨closeS_none (by omega) (by omega) (by omega), rfl, a, cap, rs, sa, scap, ea, ecap, HM.out⟩
end Go.Proofs.Ytigmdaiecdoimaa

/- Texts that FnRawBack leans on, part 3. (Put together by wip/tools/bundle.py.) -/
import Derived.Laws.Bits128
import Derived.Deep.RegionHeld
import Derived.Test.YtbpilecgnfnndaaBack1
import Derived.Test.YtbpilecgnfnndaaBack2
namespace Go.Proofs.Ytbpilecgnfnndaa
set_option linter.unusedSimpArgs false
set_option linter.unusedVariables false
open Go.ChangeShapes Go.WideShapes Go.ChangeAt Go.RowKit Go.BigFrame
def rankS (xs : List Shp) (id : Int) : Nat := (xs.filter fun x => decide (x.id < id)).length
theorem filter_snoc {α : Type} {p : α → Bool} {xs : List α} {k : Nat} {e : α} (he : xs[k]? = some e) : ((xs.take (k + 1)).filter p).length = ((xs.take k).filter p).length + if p e = true then 1 else 0 := by
  rw [List.take_add_one, he]
  simp only [Option.toList_some, List.filter_append, List.length_append]
  congr 1
  by_cases h : p e = true <;> simp [h]
set_option maxHeartbeats 2000000 in
theorem l8Rank_any (a : Option Addr) (cap n : Nat) (xs : List Shp) (x : Int) (w : World) (h : Shs w a xs) (hl : xs.length = n) (hn : n ≤ 1048576) :
    Calls Try.prog 54 #[.agg #[.slice a n cap], .int .i64 x] w fun r w' => r = .returned (.int .i64 (rankS xs x : Nat)) ∧ Below w.heap.size w w' := by
  have HL := Lib.hid hl; clear hl
  obtain ⟨R, hR⟩ : ∃ R, rankS xs x = R := ⟨_, rfl⟩
  rw [hR]
  have HR := Lib.hid hR; clear hR
  go_enter Try.func54, Try.ntmps54
  go_wp2
  have hh : Shs (w.alloc (.cells #[.slice a n cap] 26)) a xs := h.keep (by ((repeat (first | (with_reducible exact Below.refl _ _) | (with_reducible assumption) | (with_reducible refine Below.alloc ?_ ?_ _) | (with_reducible refine Below.setCell ?_ ?_ _) | (with_reducible refine Below.drew ?_) | (with_reducible refine below_setRow ?_ ?_ _) | (refine Below.trans ?_ (Below.mono (by assumption) ?_)))); all_goals (first | omega | (simp; done) | (simp; omega))))
  have HH := Lib.hid hh; clear hh
  go_loop [5, 6] (fun t i => ∃ k c : Nat, k ≤ n ∧ c ≤ k ∧ i = .int .i64 k ∧ t = .int .i64 c ∧ Hid (((xs.take k).filter (fun y => decide (y.id < x))).length = c)) (fun _ i => n - (intOf i).toNat)
  case atStart => exact ⟨0, 0, Nat.zero_le _, Nat.zero_le _, rfl, rfl, Lib.hid (by simp)⟩
  case round =>
    obtain ⟨k, c, hk, hck, rfl, rfl, HK⟩ := hrel
    by_cases hlt : k < n
    · obtain ⟨f, hf, _⟩ := at_lt (xs := xs) (k := k) (by rw [HL.out]; omega)
      obtain ⟨b, off, a', cap', rfl, hbl, d0, -⟩ := Shs.at HH.out hf
      have HF := Lib.hid hf; clear hf
      by_cases hq : f.id < x
      · have HK2 := Lib.hid (show ((xs.take (k + 1)).filter (fun y => decide (y.id < x))).length = c + 1 by rw [filter_snoc HF.out, HK.out, if_pos (by simpa using hq)])
        go_wp2
        go_round
        case rel => exact ⟨k + 1, c + 1, by omega, by omega, by go_num, by go_num, HK2⟩
        case measure => simp [intOf]; omega
      · have HK2 := Lib.hid (show ((xs.take (k + 1)).filter (fun y => decide (y.id < x))).length = c by rw [filter_snoc HF.out, HK.out, if_neg (by simpa using hq)]; rfl)
        have hq' : decide (f.id < x) = false := decide_eq_false hq
        clear hq
        go_wp2
        go_round
        case rel => exact ⟨k + 1, c, by omega, by omega, by go_num, rfl, HK2⟩
        case measure => simp [intOf]; omega
    · have HB := Lib.hid (show c = R by rw [← HR.out, rankS, ← HK.out, List.take_of_length_le (by rw [HL.out]; omega)])
      go_wp2
      go_ret
      have hcr := HB.out
      subst hcr
      exact ⟨rfl, by ((repeat (first | (with_reducible exact Below.refl _ _) | (with_reducible assumption) | (with_reducible refine Below.alloc ?_ ?_ _) | (with_reducible refine Below.setCell ?_ ?_ _) | (with_reducible refine Below.drew ?_) | (with_reducible refine below_setRow ?_ ?_ _) | (refine Below.trans ?_ (Below.mono (by assumption) ?_)))); all_goals (first | omega | (simp; done) | (simp; omega)))⟩
def putF : List Fld → Fld → List Fld
  | [], f => [f]
  | g :: gs, f => if g.number < f.number then g :: putF gs f else f :: g :: gs
theorem putF_len : ∀ (fs : List Fld) (f : Fld), (putF fs f).length = fs.length + 1
  | [], f => rfl
  | g :: gs, f => by unfold putF; split <;> simp [putF_len gs f]
theorem pf_step {fs : List Fld} {f g : Fld} {k : Nat} {R : List Fld} (h : fs.take k ++ putF (fs.drop k) f = R) (hg : fs[k]? = some g) (hq : g.number < f.number) : fs.take (k + 1) ++ putF (fs.drop (k + 1)) f = R := by
  rw [drop_cons hg, putF, if_pos hq] at h
  rw [List.take_add_one, hg, ← h]; simp
theorem pf_stop {fs : List Fld} {f g : Fld} {k : Nat} {R : List Fld} (h : fs.take k ++ putF (fs.drop k) f = R) (hg : fs[k]? = some g) (hq : ¬ g.number < f.number) : fs.take k ++ f :: fs.drop k = R := by
  rw [drop_cons hg, putF, if_neg hq, ← drop_cons hg] at h; exact h
theorem pf_end {fs : List Fld} {f : Fld} {k : Nat} {R : List Fld} (h : fs.take k ++ putF (fs.drop k) f = R) (hk : fs.length ≤ k) : fs.take k ++ f :: fs.drop k = R := by
  rw [List.drop_of_length_le hk, putF] at h; rw [List.drop_of_length_le hk]; exact h
theorem info_Fld5 : (Try.prog.info? 47).map (fun i => (i.zero, i.size, i.bytes)) = some (some (.agg #[.int .i64 0, .int .i64 0, .bool false, .bool false, .int .i64 0]), 5, 32) := by kernel_rfl
theorem takeF_pre {fs : List Fld} {m j : Nat} {u : Value} (h : ((fs.take m).flatMap Fld.cs)[j]? = some u) : (fs.flatMap Fld.cs)[j]? = some u := by
  have h0 := pre_at (more := (fs.drop m).flatMap Fld.cs) h
  rwa [← List.flatMap_append, List.take_append_drop] at h0
theorem dropF_at {fs : List Fld} {w : World} {b m : Nat} (h : ∀ (j : Nat) (u : Value), (fs.flatMap Fld.cs)[j]? = some u → w.cell? ((⟨b, 0, none⟩ : Addr).add j) = some u) (hm : m ≤ fs.length) {j : Nat} {u : Value} (hj : ((fs.drop m).flatMap Fld.cs)[j]? = some u) : w.cell? ((⟨b, m * 5, none⟩ : Addr).add j) = some u := by
  have h1 := h (m * 5 + j) u (by
    have e : fs.flatMap Fld.cs = (fs.take m).flatMap Fld.cs ++ (fs.drop m).flatMap Fld.cs := by rw [← List.flatMap_append, List.take_append_drop]
    rw [e, List.getElem?_append_right (by rw [flatMap_len fld_len, List.length_take]; omega), flatMap_len fld_len, List.length_take, Nat.min_eq_left hm, Nat.add_sub_cancel_left]; exact hj)
  have e2 : (⟨b, 0, none⟩ : Addr).add (m * 5 + j) = (⟨b, m * 5, none⟩ : Addr).add j := by simp only [Addr.add]; split <;> split <;> simp_all <;> omega
  rwa [e2] at h1
theorem own_mono {w : World} {base base' n size : Nat} {t : TypeId} {v : Value} {L : List Value} (h : w.ownsRow base t size v n L) (hb : base' ≤ base) : w.ownsRow base' t size v n L :=
  ⟨h.1, h.2.imp id fun ⟨g, cap, cur, e, hg, r⟩ => ⟨g, cap, cur, e, Nat.le_trans hb hg, r⟩⟩
theorem range_five {w : World} {B : Nat} {v0 v1 v2 v3 v4 : Value} (h : Cells [(⟨B, 0, none⟩, v0), (⟨B, 1, none⟩, v1), (⟨B, 2, none⟩, v2), (⟨B, 3, none⟩, v3), (⟨B, 4, none⟩, v4)] w) : w.rangeAt B 0 [v0, v1, v2, v3, v4] := by
  simp only [cells_cons, cells_nil, and_true] at h
  obtain ⟨h0, h1, h2, h3, h4⟩ := h
  intro j u hj
  rw [Nat.zero_add]
  match j, hj with
  | 0, hj => simp at hj; subst hj; exact h0
  | 1, hj => simp at hj; subst hj; exact h1
  | 2, hj => simp at hj; subst hj; exact h2
  | 3, hj => simp at hj; subst hj; exact h3
  | 4, hj => simp at hj; subst hj; exact h4
  | j + 5, hj => simp at hj
set_option maxRecDepth 100000 in
set_option maxHeartbeats 4000000 in
theorem l8Put_any (b cap n : Nat) (fs : List Fld) (f : Fld) (w : World) (h : Flds w (some ⟨b, 0, none⟩) fs) (hl : fs.length = n) (hn : n ≤ 1000) (hcap : n ≤ cap) :
    Calls Try.prog 55 #[.slice (some ⟨b, 0, none⟩) n cap, f.val] w fun r w' => ∃ a' cap', r = .returned (.slice a' (n + 1) cap') ∧ w'.ownsRow w.heap.size 47 5 (.slice a' (n + 1) cap') (n + 1) ((putF fs f).flatMap Fld.cs) ∧ Below w.heap.size w w' := by
  have HL := Lib.hid hl; clear hl
  have HF := Lib.hid h; clear h
  obtain ⟨R, hR⟩ : ∃ R, putF fs f = R := ⟨_, rfl⟩
  rw [hR]
  have HR := Lib.hid (show fs.take 0 ++ putF (fs.drop 0) f = R from hR); clear hR
  obtain ⟨i0, hi, iz0, iz1, iz2⟩ := info_parts info_Fld5
  obtain ⟨fn, fk, fr, fp, fm⟩ := f
  go_enter Try.func55, Try.ntmps55
  go_wp2
  go_loopw [5] (fun i wr => ∃ k : Nat, k ≤ n ∧ i = .int .i64 k ∧ Hid (fs.take k ++ putF (fs.drop k) ⟨fn, fk, fr, fp, fm⟩ = R) ∧ wr.heap[w.heap.size]? = some (.cells #[.int .i64 fn, .int .i64 fk, .bool fr, .bool fp, .int .i64 fm] 47 (0, 0)) ∧ Below w.heap.size w wr) (fun i _ => n - (intOf i).toNat)
  case atStart => exact ⟨0, Nat.zero_le _, rfl, HR, hset_new rfl, by ((repeat (first | (with_reducible exact Below.refl _ _) | (with_reducible assumption) | (with_reducible refine Below.alloc ?_ ?_ _) | (with_reducible refine Below.setCell ?_ ?_ _) | (with_reducible refine Below.drew ?_) | (with_reducible refine below_setRow ?_ ?_ _) | (refine Below.trans ?_ (Below.mono (by assumption) ?_)))); all_goals (first | omega | (simp; done) | (simp; omega)))⟩
  case round =>
    obtain ⟨k, hk, rfl, HK, hG, hb⟩ := hrel
    have kG := box_cells hG; have hlG := box_lt hG
    have HG := Lib.hid hG; clear hG
    have stop : ∀ wq : World, Below wr.heap.size wr wq → fs.take k ++ (⟨fn, fk, fr, fp, fm⟩ : Fld) :: fs.drop k = R → True := fun _ _ _ => trivial
    clear stop
    by_cases hlt : k < n
    · obtain ⟨g, hg, _⟩ := at_lt (xs := fs) (k := k) (by rw [HL.out]; exact hlt)
      obtain ⟨b', off', hbe, hbl, d0, -⟩ := Flds.at (Sl.keep HF.out hb) hg
      simp only [Option.some.injEq, Addr.mk.injEq, and_true] at hbe
      obtain ⟨rfl, rfl⟩ := hbe
      simp only [Nat.zero_add] at d0
      have HGe := Lib.hid hg; clear hg
      have hki : decide ((k : Int) < (n : Int)) = true := decide_eq_true (by omega)
      by_cases hq : g.number < fn
      · have HK2 := Lib.hid (pf_step HK.out HGe.out hq)
        have hq' : decide (g.number < fn) = true := decide_eq_true hq
        clear hq
        go_wp2_with fail
        (refine wp_region_ext (by kernel_rfl) (by kernel_rfl) ?_; (repeat (go_big_quiet_step (fail))); refine wpQuiet_nil ?_; intro w2 hb2; obtain ⟨hc2, hf2⟩ := bcell hb2; have hz2 := hb2.size; (try simp only [World.size_alloc, World.size_setCell, World.size_drew] at hz2))
        go_wp2
        go_roundw
        case rel => exact ⟨k + 1, by omega, by go_num, HK2, (hb2.block _ (by omega)).trans HG.out, hb.trans (hb2.mono (by omega))⟩
        case measure => simp [intOf]; omega
      · have HK2 := Lib.hid (pf_stop HK.out HGe.out hq)
        have hq' : decide (g.number < fn) = false := decide_eq_false hq
        clear hq
        go_wp2_with fail
        (refine wp_region_ext (by kernel_rfl) (by kernel_rfl) ?_; (repeat (go_big_quiet_step (fail))); refine wpQuiet_nil ?_; intro w2 hb2; obtain ⟨hc2, hf2⟩ := bcell hb2; have hz2 := hb2.size; (try simp only [World.size_alloc, World.size_setCell, World.size_drew] at hz2))
        have hkc : (k : Int) ≤ (cap : Int) := by omega
        have hk0 : (0 : Int) ≤ (k : Int) := by omega
        have hbw : Below w.heap.size w w2 := hb.trans (hb2.mono (by omega))
        have hGw := Lib.hid ((hb2.block _ (by omega)).trans HG.out)
        have HFw := Lib.hid (Sl.keep HF.out hbw)
        clear hc2 hf2 kG d0
        have HB : Hid ((w2.alloc (.cells #[] 47)).ownsRow w2.heap.size 47 5 (.slice (some ⟨w2.heap.size, 0, none⟩) 0 0) 0 []) := Lib.hid (own_built w2 47 5)
        have HN := Lib.hid (sl_newsN (w := w2.alloc (.cells #[] 47)) (cs := Fld.cs) (by omega) fld_len (Sl.keep HFw.out (by ((repeat (first | (with_reducible exact Below.refl _ _) | (with_reducible assumption) | (with_reducible refine Below.alloc ?_ ?_ _) | (with_reducible refine Below.setCell ?_ ?_ _) | (with_reducible refine Below.drew ?_) | (with_reducible refine below_setRow ?_ ?_ _) | (refine Below.trans ?_ (Below.mono (by assumption) ?_)))); all_goals (first | omega | (simp; done) | (simp; omega))))) _ rfl)
        have hlT : (fs.take k).length = k := by rw [List.length_take, HL.out]; omega
        go_wp2_with (first | (at_builtin; refine wpList_append_own _ rfl _ _ 41 rfl w2.heap.size 47 i0 _ 5 32 Try.underlying41 hi iz0 iz1 iz2 rfl (by decide) _ 0 [] rfl HB.out ⟨b, 0, none⟩ k cap ((fs.take k).flatMap Fld.cs) rfl (by rw [flatMap_len fld_len, hlT]) (fun j u hj => HN.out j u (takeF_pre hj)) (flat_one fld_one _) (by unfold maxLen; omega) (by omega) (by simp) ?_; intro v4 w4 hown4 hgr4 _; rw [Nat.zero_add, List.nil_append] at hown4; obtain ⟨a4, cap4, rfl, _⟩ := own_sh hown4; have hb4 : Below w2.heap.size w2 w4 := below_grown (by ((repeat (first | (with_reducible exact Below.refl _ _) | (with_reducible assumption) | (with_reducible refine Below.alloc ?_ ?_ _) | (with_reducible refine Below.setCell ?_ ?_ _) | (with_reducible refine Below.drew ?_) | (with_reducible refine below_setRow ?_ ?_ _) | (refine Below.trans ?_ (Below.mono (by assumption) ?_)))); all_goals (first | omega | (simp; done) | (simp; omega)))) hgr4 (fun g e => by have e' : w2.heap.size = g := Option.some.inj e; omega) (by simp); have HO4 := Lib.hid hown4; clear hown4 hgr4 HB HN; simp only [Nat.zero_add]))
        have hbw4 : Below w.heap.size w w4 := hbw.trans (hb4.mono (by omega))
        have hz4 := hb4.size
        have hG4 := (hb4.block w.heap.size (by omega)).trans hGw.out
        have kG4 := box_cells hG4; clear hG4
        have HF4 := Lib.hid (Sl.keep HFw.out hb4)
        refine wp_region_till (Cells [(⟨w.heap.size, 0, none⟩, .int .i64 fn), (⟨w.heap.size, 1, none⟩, .int .i64 fk), (⟨w.heap.size, 2, none⟩, .bool fr), (⟨w.heap.size, 3, none⟩, .bool fp), (⟨w.heap.size, 4, none⟩, .int .i64 fm)]) (fun i => decide (8 ≤ i)) (by kernel_rfl) ?_
        have hS : Cells [(⟨w.heap.size, 0, none⟩, .int .i64 fn), (⟨w.heap.size, 1, none⟩, .int .i64 fk), (⟨w.heap.size, 2, none⟩, .bool fr), (⟨w.heap.size, 3, none⟩, .bool fp), (⟨w.heap.size, 4, none⟩, .int .i64 fm)] w4.drew := cells_mk (kG4 0) (cells_mk (kG4 1) (cells_mk (kG4 2) (cells_mk (kG4 3) (cells_mk (kG4 4) (cells_no _)))))
        clear kG4
        have hcmk : (k : Int) ≤ (n : Int) := by omega
        refine' wpTill_take (i := 1) (oi := _) (v := .agg #[.int .i64 fn, .int .i64 fk, .bool fr, .bool fp, .int .i64 fm]) rfl (by kernel_rfl) (by kernel_rfl) (by kernel_rfl) (by kernel_rfl) (fun _ _ _ h => h) (yieldsIf_load_mid (by rfl) _ _ rfl _ _ rfl [.int .i64 fn, .int .i64 fk, .bool fr, .bool fp, .int .i64 fm] _ (fun wq hq => range_five hq) Try.underlying47 rfl (by kernel_rfl)) hS ?_
        try simp only [List.getElem_toArray, List.getElem_cons_succ, List.getElem_cons_zero, Act.put, List.setIfInBounds_toArray, List.set_cons_zero, List.set_cons_succ]
        refine wpTill_take (i := 0) (v := ?v0_1) rfl (by kernel_rfl) (by kernel_rfl) (by kernel_rfl) (by kernel_rfl) (fun _ _ _ h => h) (Or.inl ⟨by rfl, ?y0_1⟩) hS ?r0_1
        case y0_1 => (intro wq hq; (try simp only [cells_cons, cells_nil, and_true] at hq); first | (go_simp; done) | (go_simp; with_reducible rfl) | (obtain ⟨hq1, hq2⟩ := hq; go_simp; with_reducible rfl))
        try simp only [List.getElem_toArray, List.getElem_cons_succ, List.getElem_cons_zero, Act.put, List.setIfInBounds_toArray, List.set_cons_zero, List.set_cons_succ]
        refine wpTill_take (i := 4) (v := ?v4_2) rfl (by kernel_rfl) (by kernel_rfl) (by kernel_rfl) (by kernel_rfl) (fun _ _ _ h => h) (Or.inl ⟨by rfl, ?y4_2⟩) hS ?r4_2
        case y4_2 => (intro wq hq; (try simp only [cells_cons, cells_nil, and_true] at hq); first | (go_simp; done) | (go_simp; with_reducible rfl) | (obtain ⟨hq1, hq2⟩ := hq; go_simp; with_reducible rfl))
        try simp only [List.getElem_toArray, List.getElem_cons_succ, List.getElem_cons_zero, Act.put, List.setIfInBounds_toArray, List.set_cons_zero, List.set_cons_succ]
        refine wpTill_take (i := 5) (v := ?v5_3) rfl (by kernel_rfl) (by kernel_rfl) (by kernel_rfl) (by kernel_rfl) (fun _ _ _ h => h) (Or.inl ⟨by rfl, ?y5_3⟩) hS ?r5_3
        case y5_3 => (intro wq hq; (try simp only [cells_cons, cells_nil, and_true] at hq); first | (go_simp; done) | (go_simp; with_reducible rfl) | (obtain ⟨hq1, hq2⟩ := hq; go_simp; with_reducible rfl))
        try simp only [List.getElem_toArray, List.getElem_cons_succ, List.getElem_cons_zero, Act.put, List.setIfInBounds_toArray, List.set_cons_zero, List.set_cons_succ]
        refine wpTill_take (i := 6) (v := ?v6_4) rfl (by kernel_rfl) (by kernel_rfl) (by kernel_rfl) (by kernel_rfl) (fun _ _ _ h => h) (Or.inl ⟨by rfl, ?y6_4⟩) hS ?r6_4
        case y6_4 => (intro wq hq; (try simp only [cells_cons, cells_nil, and_true] at hq); first | (go_simp; done) | (go_simp; with_reducible rfl) | (obtain ⟨hq1, hq2⟩ := hq; go_simp; with_reducible rfl))
        try simp only [List.getElem_toArray, List.getElem_cons_succ, List.getElem_cons_zero, Act.put, List.setIfInBounds_toArray, List.set_cons_zero, List.set_cons_succ]
        refine wpTill_op (i := 2) (by kernel_rfl) rfl (fun K hK => ?_)
        go_simp
        refine hK.out _ _ (fun _ => hS.alloc _) ?_
        have hS5 := hS.alloc (.cells #[.int .i64 fn, .int .i64 fk, .bool fr, .bool fp, .int .i64 fm] 47); clear hS; have hS := hS5; clear hS5
        clear hK K
        try simp only [Act.put, List.setIfInBounds_toArray, List.set_cons_zero, List.set_cons_succ]
        have hb5 : Below w4.heap.size w4 (w4.alloc (.cells #[.int .i64 fn, .int .i64 fk, .bool fr, .bool fp, .int .i64 fm] 47)).drew := ((Below.refl _ _).alloc (Nat.le_refl _) _).drew
        have HO5 := Lib.hid (owns_below HO4.out hb5 (Nat.le_refl _))
        have HW5 := Lib.hid (World.news_of_block (w := (w4.alloc (.cells #[.int .i64 fn, .int .i64 fk, .bool fr, .bool fp, .int .i64 fm] 47)).drew) (cs := #[.int .i64 fn, .int .i64 fk, .bool fr, .bool fp, .int .i64 fm]) (t := 47) (fr := (0, 0)) (hset_drew (hset_new rfl)))
        have hq5 : ∀ g, (Value.slice a4 k cap4).ownBlock = some g → w.heap.size < g := fun g e => by have := (HO4.out.lt g e).1; omega
        refine wpTill_op (i := 3) (by kernel_rfl) rfl (fun K hK => ?_)
        refine step_append_own rfl _ _ 41 rfl w2.heap.size 47 i0 _ 5 32 Try.underlying41 hi iz0 iz1 iz2 rfl (by decide) _ k ((fs.take k).flatMap Fld.cs) rfl HO5.out ⟨w4.heap.size, 0, none⟩ 1 1 [.int .i64 fn, .int .i64 fk, .bool fr, .bool fp, .int .i64 fm] rfl rfl HW5.out (by simp [Value.oneCell']) (by unfold maxLen; omega) (by omega) (by simp; omega) ?_
        intro v6 w6 hown6 hgr6 _
        obtain ⟨a6, cap6, rfl, _⟩ := own_sh hown6
        have hS6 := hS.grown hgr6 (by intro q hq; simp only [List.mem_cons, List.not_mem_nil, or_false] at hq; intro e; have := hq5 _ e; rcases hq with rfl | rfl | rfl | rfl | rfl <;> (simp only at this; omega))
        have hb6 : Below w2.heap.size w2 w6 := below_grown ((hb4.trans (hb5.mono hz4))) hgr6 (fun g e => (HO4.out.lt g e).1) (by simp; omega)
        have HO6 := Lib.hid hown6; clear hown6 hgr6
        refine hK.out _ _ (fun _ => hS6) ?_
        clear hK K hS
        try simp only [List.getElem_toArray, List.getElem_cons_succ, List.getElem_cons_zero, Act.put, List.setIfInBounds_toArray, List.set_cons_zero, List.set_cons_succ]
        have HN6 := Lib.hid (sl_newsN (w := w6) (cs := Fld.cs) (by omega) fld_len (Sl.keep HFw.out hb6) _ rfl)
        have hck : ¬ (cap : Int) = (k : Int) := by omega
        have hck' : ¬ cap = k := by omega
        simp only [hck, hck', if_false]
        refine wpTill_op (i := 7) (by kernel_rfl) rfl (fun K hK => ?_)
        refine step_append_own rfl _ _ 41 rfl w2.heap.size 47 i0 _ 5 32 Try.underlying41 hi iz0 iz1 iz2 rfl (by decide) (.slice a6 (k + 1) cap6) (k + 1) ((fs.take k).flatMap Fld.cs ++ ([.int .i64 fn, .int .i64 fk, .bool fr, .bool fp, .int .i64 fm] : List Value)) rfl HO6.out ⟨b, k * 5, none⟩ (n - k) (cap - k) ((fs.drop k).flatMap Fld.cs) rfl (by rw [flatMap_len fld_len, List.length_drop, HL.out]) (fun j u hj => dropF_at HN6.out (by rw [HL.out]; omega) hj) (flat_one fld_one _) (by unfold maxLen; omega) (by omega) hb6.size ?_
        intro v8 w8 hown8 hgr8 _
        rw [show k + 1 + (n - k) = n + 1 by omega, show (fs.take k).flatMap Fld.cs ++ ([.int .i64 fn, .int .i64 fk, .bool fr, .bool fp, .int .i64 fm] : List Value) ++ (fs.drop k).flatMap Fld.cs = R.flatMap Fld.cs by rw [← HK2.out]; simp [List.flatMap_append, List.flatMap_cons, Fld.cs]] at hown8
        obtain ⟨a8, cap8, rfl, _⟩ := own_sh hown8
        have hb8 : Below w2.heap.size w2 w8 := below_grown hb6 hgr8 (fun g e => (HO6.out.lt g e).1) hb6.size
        refine hK.out _ _ (fun _ => hS6.grown hgr8 (by intro q hq; simp only [List.mem_cons, List.not_mem_nil, or_false] at hq; intro e; have := (HO6.out.lt _ e).1; rcases hq with rfl | rfl | rfl | rfl | rfl <;> (simp only at this; omega))) ?_
        clear hK K
        try simp only [List.getElem_toArray, List.getElem_cons_succ, List.getElem_cons_zero, Act.put, List.setIfInBounds_toArray, List.set_cons_zero, List.set_cons_succ]
        refine wpTill_op (i := 8) (by kernel_rfl) rfl (fun K hK => ?_)
        go_simp
        refine hK.out _ _ (fun e => by cases e) ?_
        clear hK K
        refine wpTill_done (by kernel_rfl) ?_ _
        go_wp2
        go_ret
        exact ⟨a8, cap8, rfl, own_mono hown8 (by omega), hbw.trans (hb8.mono (by omega))⟩
    · have HK2 := Lib.hid (pf_end HK.out (by rw [HL.out]; omega))
      have hki : decide ((k : Int) < (n : Int)) = false := decide_eq_false (by omega)
      go_wp2_with fail
      (refine wp_region_ext (by kernel_rfl) (by kernel_rfl) ?_; (repeat (go_big_quiet_step (fail))); refine wpQuiet_nil ?_; intro w2 hb2; obtain ⟨hc2, hf2⟩ := bcell hb2; have hz2 := hb2.size; (try simp only [World.size_alloc, World.size_setCell, World.size_drew] at hz2))
      have hkc : (k : Int) ≤ (cap : Int) := by omega
      have hk0 : (0 : Int) ≤ (k : Int) := by omega
      have hbw : Below w.heap.size w w2 := hb.trans (hb2.mono (by omega))
      have hGw := Lib.hid ((hb2.block _ (by omega)).trans HG.out)
      have HFw := Lib.hid (Sl.keep HF.out hbw)
      clear hc2 hf2 kG
      have HB : Hid ((w2.alloc (.cells #[] 47)).ownsRow w2.heap.size 47 5 (.slice (some ⟨w2.heap.size, 0, none⟩) 0 0) 0 []) := Lib.hid (own_built w2 47 5)
      have HN := Lib.hid (sl_newsN (w := w2.alloc (.cells #[] 47)) (cs := Fld.cs) (by omega) fld_len (Sl.keep HFw.out (by ((repeat (first | (with_reducible exact Below.refl _ _) | (with_reducible assumption) | (with_reducible refine Below.alloc ?_ ?_ _) | (with_reducible refine Below.setCell ?_ ?_ _) | (with_reducible refine Below.drew ?_) | (with_reducible refine below_setRow ?_ ?_ _) | (refine Below.trans ?_ (Below.mono (by assumption) ?_)))); all_goals (first | omega | (simp; done) | (simp; omega))))) _ rfl)
      have hlT : (fs.take k).length = k := by rw [List.length_take, HL.out]; omega
      go_wp2_with (first | (at_builtin; refine wpList_append_own _ rfl _ _ 41 rfl w2.heap.size 47 i0 _ 5 32 Try.underlying41 hi iz0 iz1 iz2 rfl (by decide) _ 0 [] rfl HB.out ⟨b, 0, none⟩ k cap ((fs.take k).flatMap Fld.cs) rfl (by rw [flatMap_len fld_len, hlT]) (fun j u hj => HN.out j u (takeF_pre hj)) (flat_one fld_one _) (by unfold maxLen; omega) (by omega) (by simp) ?_; intro v4 w4 hown4 hgr4 _; rw [Nat.zero_add, List.nil_append] at hown4; obtain ⟨a4, cap4, rfl, _⟩ := own_sh hown4; have hb4 : Below w2.heap.size w2 w4 := below_grown (by ((repeat (first | (with_reducible exact Below.refl _ _) | (with_reducible assumption) | (with_reducible refine Below.alloc ?_ ?_ _) | (with_reducible refine Below.setCell ?_ ?_ _) | (with_reducible refine Below.drew ?_) | (with_reducible refine below_setRow ?_ ?_ _) | (refine Below.trans ?_ (Below.mono (by assumption) ?_)))); all_goals (first | omega | (simp; done) | (simp; omega)))) hgr4 (fun g e => by have e' : w2.heap.size = g := Option.some.inj e; omega) (by simp); have HO4 := Lib.hid hown4; clear hown4 hgr4 HB HN; simp only [Nat.zero_add]))
      have hbw4 : Below w.heap.size w w4 := hbw.trans (hb4.mono (by omega))
      have hz4 := hb4.size
      have hG4 := (hb4.block w.heap.size (by omega)).trans hGw.out
      have kG4 := box_cells hG4; clear hG4
      have HF4 := Lib.hid (Sl.keep HFw.out hb4)
      refine wp_region_till (Cells [(⟨w.heap.size, 0, none⟩, .int .i64 fn), (⟨w.heap.size, 1, none⟩, .int .i64 fk), (⟨w.heap.size, 2, none⟩, .bool fr), (⟨w.heap.size, 3, none⟩, .bool fp), (⟨w.heap.size, 4, none⟩, .int .i64 fm)]) (fun i => decide (8 ≤ i)) (by kernel_rfl) ?_
      have hS : Cells [(⟨w.heap.size, 0, none⟩, .int .i64 fn), (⟨w.heap.size, 1, none⟩, .int .i64 fk), (⟨w.heap.size, 2, none⟩, .bool fr), (⟨w.heap.size, 3, none⟩, .bool fp), (⟨w.heap.size, 4, none⟩, .int .i64 fm)] w4.drew := cells_mk (kG4 0) (cells_mk (kG4 1) (cells_mk (kG4 2) (cells_mk (kG4 3) (cells_mk (kG4 4) (cells_no _)))))
      clear kG4
      have hcmk : (k : Int) ≤ (n : Int) := by omega
      refine' wpTill_take (i := 1) (oi := _) (v := .agg #[.int .i64 fn, .int .i64 fk, .bool fr, .bool fp, .int .i64 fm]) rfl (by kernel_rfl) (by kernel_rfl) (by kernel_rfl) (by kernel_rfl) (fun _ _ _ h => h) (yieldsIf_load_mid (by rfl) _ _ rfl _ _ rfl [.int .i64 fn, .int .i64 fk, .bool fr, .bool fp, .int .i64 fm] _ (fun wq hq => range_five hq) Try.underlying47 rfl (by kernel_rfl)) hS ?_
      try simp only [List.getElem_toArray, List.getElem_cons_succ, List.getElem_cons_zero, Act.put, List.setIfInBounds_toArray, List.set_cons_zero, List.set_cons_succ]
      refine wpTill_take (i := 0) (v := ?v0_5) rfl (by kernel_rfl) (by kernel_rfl) (by kernel_rfl) (by kernel_rfl) (fun _ _ _ h => h) (Or.inl ⟨by rfl, ?y0_5⟩) hS ?r0_5
      case y0_5 => (intro wq hq; (try simp only [cells_cons, cells_nil, and_true] at hq); first | (go_simp; done) | (go_simp; with_reducible rfl) | (obtain ⟨hq1, hq2⟩ := hq; go_simp; with_reducible rfl))
      try simp only [List.getElem_toArray, List.getElem_cons_succ, List.getElem_cons_zero, Act.put, List.setIfInBounds_toArray, List.set_cons_zero, List.set_cons_succ]
      refine wpTill_take (i := 4) (v := ?v4_6) rfl (by kernel_rfl) (by kernel_rfl) (by kernel_rfl) (by kernel_rfl) (fun _ _ _ h => h) (Or.inl ⟨by rfl, ?y4_6⟩) hS ?r4_6
      case y4_6 => (intro wq hq; (try simp only [cells_cons, cells_nil, and_true] at hq); first | (go_simp; done) | (go_simp; with_reducible rfl) | (obtain ⟨hq1, hq2⟩ := hq; go_simp; with_reducible rfl))
      try simp only [List.getElem_toArray, List.getElem_cons_succ, List.getElem_cons_zero, Act.put, List.setIfInBounds_toArray, List.set_cons_zero, List.set_cons_succ]
      refine wpTill_take (i := 5) (v := ?v5_7) rfl (by kernel_rfl) (by kernel_rfl) (by kernel_rfl) (by kernel_rfl) (fun _ _ _ h => h) (Or.inl ⟨by rfl, ?y5_7⟩) hS ?r5_7
      case y5_7 => (intro wq hq; (try simp only [cells_cons, cells_nil, and_true] at hq); first | (go_simp; done) | (go_simp; with_reducible rfl) | (obtain ⟨hq1, hq2⟩ := hq; go_simp; with_reducible rfl))
      try simp only [List.getElem_toArray, List.getElem_cons_succ, List.getElem_cons_zero, Act.put, List.setIfInBounds_toArray, List.set_cons_zero, List.set_cons_succ]
      refine wpTill_take (i := 6) (v := ?v6_8) rfl (by kernel_rfl) (by kernel_rfl) (by kernel_rfl) (by kernel_rfl) (fun _ _ _ h => h) (Or.inl ⟨by rfl, ?y6_8⟩) hS ?r6_8
      case y6_8 => (intro wq hq; (try simp only [cells_cons, cells_nil, and_true] at hq); first | (go_simp; done) | (go_simp; with_reducible rfl) | (obtain ⟨hq1, hq2⟩ := hq; go_simp; with_reducible rfl))
      try simp only [List.getElem_toArray, List.getElem_cons_succ, List.getElem_cons_zero, Act.put, List.setIfInBounds_toArray, List.set_cons_zero, List.set_cons_succ]
      refine wpTill_op (i := 2) (by kernel_rfl) rfl (fun K hK => ?_)
      go_simp
      refine hK.out _ _ (fun _ => hS.alloc _) ?_
      have hS5 := hS.alloc (.cells #[.int .i64 fn, .int .i64 fk, .bool fr, .bool fp, .int .i64 fm] 47); clear hS; have hS := hS5; clear hS5
      clear hK K
      try simp only [Act.put, List.setIfInBounds_toArray, List.set_cons_zero, List.set_cons_succ]
      have hb5 : Below w4.heap.size w4 (w4.alloc (.cells #[.int .i64 fn, .int .i64 fk, .bool fr, .bool fp, .int .i64 fm] 47)).drew := ((Below.refl _ _).alloc (Nat.le_refl _) _).drew
      have HO5 := Lib.hid (owns_below HO4.out hb5 (Nat.le_refl _))
      have HW5 := Lib.hid (World.news_of_block (w := (w4.alloc (.cells #[.int .i64 fn, .int .i64 fk, .bool fr, .bool fp, .int .i64 fm] 47)).drew) (cs := #[.int .i64 fn, .int .i64 fk, .bool fr, .bool fp, .int .i64 fm]) (t := 47) (fr := (0, 0)) (hset_drew (hset_new rfl)))
      have hq5 : ∀ g, (Value.slice a4 k cap4).ownBlock = some g → w.heap.size < g := fun g e => by have := (HO4.out.lt g e).1; omega
      refine wpTill_op (i := 3) (by kernel_rfl) rfl (fun K hK => ?_)
      refine step_append_own rfl _ _ 41 rfl w2.heap.size 47 i0 _ 5 32 Try.underlying41 hi iz0 iz1 iz2 rfl (by decide) _ k ((fs.take k).flatMap Fld.cs) rfl HO5.out ⟨w4.heap.size, 0, none⟩ 1 1 [.int .i64 fn, .int .i64 fk, .bool fr, .bool fp, .int .i64 fm] rfl rfl HW5.out (by simp [Value.oneCell']) (by unfold maxLen; omega) (by omega) (by simp; omega) ?_
      intro v6 w6 hown6 hgr6 _
      obtain ⟨a6, cap6, rfl, _⟩ := own_sh hown6
      have hS6 := hS.grown hgr6 (by intro q hq; simp only [List.mem_cons, List.not_mem_nil, or_false] at hq; intro e; have := hq5 _ e; rcases hq with rfl | rfl | rfl | rfl | rfl <;> (simp only at this; omega))
      have hb6 : Below w2.heap.size w2 w6 := below_grown ((hb4.trans (hb5.mono hz4))) hgr6 (fun g e => (HO4.out.lt g e).1) (by simp; omega)
      have HO6 := Lib.hid hown6; clear hown6 hgr6
      refine hK.out _ _ (fun _ => hS6) ?_
      clear hK K hS
      try simp only [List.getElem_toArray, List.getElem_cons_succ, List.getElem_cons_zero, Act.put, List.setIfInBounds_toArray, List.set_cons_zero, List.set_cons_succ]
      have HN6 := Lib.hid (sl_newsN (w := w6) (cs := Fld.cs) (by omega) fld_len (Sl.keep HFw.out hb6) _ rfl)
      obtain ⟨ad, had⟩ : ∃ ad : Addr, (if cap = k then some (⟨b, 0, none⟩ : Addr) else some ⟨b, k * 5, none⟩) = some ad := by
        split <;> exact ⟨_, rfl⟩
      have hdn : fs.drop k = [] := List.drop_of_length_le (by rw [HL.out]; omega)
      simp only [had]
      refine wpTill_op (i := 7) (by kernel_rfl) rfl (fun K hK => ?_)
      refine step_append_own rfl _ _ 41 rfl w2.heap.size 47 i0 _ 5 32 Try.underlying41 hi iz0 iz1 iz2 rfl (by decide) (.slice a6 (k + 1) cap6) (k + 1) ((fs.take k).flatMap Fld.cs ++ ([.int .i64 fn, .int .i64 fk, .bool fr, .bool fp, .int .i64 fm] : List Value)) rfl HO6.out ad (n - k) (cap - k) ((fs.drop k).flatMap Fld.cs) rfl (by rw [hdn]; simp; omega) (fun j u hj => by rw [hdn] at hj; simp at hj) (flat_one fld_one _) (by unfold maxLen; omega) (by omega) hb6.size ?_
      intro v8 w8 hown8 hgr8 _
      rw [show k + 1 + (n - k) = n + 1 by omega, show (fs.take k).flatMap Fld.cs ++ ([.int .i64 fn, .int .i64 fk, .bool fr, .bool fp, .int .i64 fm] : List Value) ++ (fs.drop k).flatMap Fld.cs = R.flatMap Fld.cs by rw [← HK2.out]; simp [List.flatMap_append, List.flatMap_cons, Fld.cs]] at hown8
      obtain ⟨a8, cap8, rfl, _⟩ := own_sh hown8
      have hb8 : Below w2.heap.size w2 w8 := below_grown hb6 hgr8 (fun g e => (HO6.out.lt g e).1) hb6.size
      refine hK.out _ _ (fun _ => hS6.grown hgr8 (by intro q hq; simp only [List.mem_cons, List.not_mem_nil, or_false] at hq; intro e; have := (HO6.out.lt _ e).1; rcases hq with rfl | rfl | rfl | rfl | rfl <;> (simp only at this; omega))) ?_
      clear hK K
      try simp only [List.getElem_toArray, List.getElem_cons_succ, List.getElem_cons_zero, Act.put, List.setIfInBounds_toArray, List.set_cons_zero, List.set_cons_succ]
      refine wpTill_op (i := 8) (by kernel_rfl) rfl (fun K hK => ?_)
      go_simp
      refine hK.out _ _ (fun e => by cases e) ?_
      clear hK K
      refine wpTill_done (by kernel_rfl) ?_ _
      go_wp2
      go_ret
      exact ⟨a8, cap8, rfl, own_mono hown8 (by omega), hbw.trans (hb8.mono (by omega))⟩
set_option maxRecDepth 100000 in
set_option maxHeartbeats 4000000 in
theorem l8Put_nil (f : Fld) (w : World) :
    Calls Try.prog 55 #[.slice none 0 0, f.val] w fun r w' => ∃ a' cap', r = .returned (.slice a' 1 cap') ∧ w'.ownsRow w.heap.size 47 5 (.slice a' 1 cap') 1 f.cs ∧ Below w.heap.size w w' := by
  obtain ⟨i0, hi, iz0, iz1, iz2⟩ := info_parts info_Fld5
  obtain ⟨fn, fk, fr, fp, fm⟩ := f
  go_enter Try.func55, Try.ntmps55
  go_wp2
  go_loopw [5] (fun i wr => i = .int .i64 0 ∧ wr.heap[w.heap.size]? = some (.cells #[.int .i64 fn, .int .i64 fk, .bool fr, .bool fp, .int .i64 fm] 47 (0, 0)) ∧ Below w.heap.size w wr) (fun i _ => 0 - (intOf i).toNat)
  case atStart => exact ⟨rfl, hset_new rfl, by ((repeat (first | (with_reducible exact Below.refl _ _) | (with_reducible assumption) | (with_reducible refine Below.alloc ?_ ?_ _) | (with_reducible refine Below.setCell ?_ ?_ _) | (with_reducible refine Below.drew ?_) | (with_reducible refine below_setRow ?_ ?_ _) | (refine Below.trans ?_ (Below.mono (by assumption) ?_)))); all_goals (first | omega | (simp; done) | (simp; omega)))⟩
  case round =>
    obtain ⟨rfl, hG, hb⟩ := hrel
    have kG := box_cells hG; have hlG := box_lt hG
    have HG := Lib.hid hG; clear hG
    go_wp2_with fail
    (refine wp_region_ext (by kernel_rfl) (by kernel_rfl) ?_; (repeat (go_big_quiet_step (fail))); refine wpQuiet_nil ?_; intro w2 hb2; obtain ⟨hc2, hf2⟩ := bcell hb2; have hz2 := hb2.size; (try simp only [World.size_alloc, World.size_setCell, World.size_drew] at hz2))
    have hbw : Below w.heap.size w w2 := hb.trans (hb2.mono (by omega))
    have hGw := Lib.hid ((hb2.block _ (by omega)).trans HG.out)
    clear hc2 hf2 kG
    have HB : Hid ((w2.alloc (.cells #[] 47)).ownsRow w2.heap.size 47 5 (.slice (some ⟨w2.heap.size, 0, none⟩) 0 0) 0 []) := Lib.hid (own_built w2 47 5)
    go_wp2_with (first | (at_builtin; refine wpList_append_any rfl _ _ 41 rfl w2.heap.size 47 i0 _ 5 32 Try.underlying41 hi iz0 iz1 iz2 rfl (by decide) _ 0 [] rfl HB.out none 0 0 [] rfl (fun _ => ⟨rfl, rfl⟩) rfl (fun _ e => by cases e) (fun _ h => by cases h) (by unfold maxLen; omega) (by omega) (by simp) ?_; intro v4 w4 hown4 hgr4; simp only [Nat.zero_add, List.nil_append, List.append_nil] at hown4; obtain ⟨a4, cap4, rfl, _⟩ := own_sh hown4; have hb4 : Below w2.heap.size w2 w4 := below_grown (by ((repeat (first | (with_reducible exact Below.refl _ _) | (with_reducible assumption) | (with_reducible refine Below.alloc ?_ ?_ _) | (with_reducible refine Below.setCell ?_ ?_ _) | (with_reducible refine Below.drew ?_) | (with_reducible refine below_setRow ?_ ?_ _) | (refine Below.trans ?_ (Below.mono (by assumption) ?_)))); all_goals (first | omega | (simp; done) | (simp; omega)))) hgr4 (fun g e => by have e' : w2.heap.size = g := Option.some.inj e; omega) (by simp); have HO4 := Lib.hid hown4; clear hown4 hgr4 HB; simp only [Nat.zero_add]))
    have hbw4 : Below w.heap.size w w4 := hbw.trans (hb4.mono (by omega))
    have hz4 := hb4.size
    have hG4 := (hb4.block w.heap.size (by omega)).trans hGw.out
    have kG4 := box_cells hG4; clear hG4
    refine wp_region_till (Cells [(⟨w.heap.size, 0, none⟩, .int .i64 fn), (⟨w.heap.size, 1, none⟩, .int .i64 fk), (⟨w.heap.size, 2, none⟩, .bool fr), (⟨w.heap.size, 3, none⟩, .bool fp), (⟨w.heap.size, 4, none⟩, .int .i64 fm)]) (fun i => decide (8 ≤ i)) (by kernel_rfl) ?_
    have hS : Cells [(⟨w.heap.size, 0, none⟩, .int .i64 fn), (⟨w.heap.size, 1, none⟩, .int .i64 fk), (⟨w.heap.size, 2, none⟩, .bool fr), (⟨w.heap.size, 3, none⟩, .bool fp), (⟨w.heap.size, 4, none⟩, .int .i64 fm)] w4.drew := cells_mk (kG4 0) (cells_mk (kG4 1) (cells_mk (kG4 2) (cells_mk (kG4 3) (cells_mk (kG4 4) (cells_no _)))))
    clear kG4
    refine' wpTill_take (i := 1) (oi := _) (v := .agg #[.int .i64 fn, .int .i64 fk, .bool fr, .bool fp, .int .i64 fm]) rfl (by kernel_rfl) (by kernel_rfl) (by kernel_rfl) (by kernel_rfl) (fun _ _ _ h => h) (yieldsIf_load_mid (by rfl) _ _ rfl _ _ rfl [.int .i64 fn, .int .i64 fk, .bool fr, .bool fp, .int .i64 fm] _ (fun wq hq => range_five hq) Try.underlying47 rfl (by kernel_rfl)) hS ?_
    try simp only [List.getElem_toArray, List.getElem_cons_succ, List.getElem_cons_zero, Act.put, List.setIfInBounds_toArray, List.set_cons_zero, List.set_cons_succ]
    refine wpTill_take (i := 0) (v := ?v0_9) rfl (by kernel_rfl) (by kernel_rfl) (by kernel_rfl) (by kernel_rfl) (fun _ _ _ h => h) (Or.inl ⟨by rfl, ?y0_9⟩) hS ?r0_9
    case y0_9 => (intro wq hq; (try simp only [cells_cons, cells_nil, and_true] at hq); first | (go_simp; done) | (go_simp; with_reducible rfl) | (obtain ⟨hq1, hq2⟩ := hq; go_simp; with_reducible rfl))
    try simp only [List.getElem_toArray, List.getElem_cons_succ, List.getElem_cons_zero, Act.put, List.setIfInBounds_toArray, List.set_cons_zero, List.set_cons_succ]
    refine wpTill_take (i := 4) (v := ?v4_10) rfl (by kernel_rfl) (by kernel_rfl) (by kernel_rfl) (by kernel_rfl) (fun _ _ _ h => h) (Or.inl ⟨by rfl, ?y4_10⟩) hS ?r4_10
    case y4_10 => (intro wq hq; (try simp only [cells_cons, cells_nil, and_true] at hq); first | (go_simp; done) | (go_simp; with_reducible rfl) | (obtain ⟨hq1, hq2⟩ := hq; go_simp; with_reducible rfl))
    try simp only [List.getElem_toArray, List.getElem_cons_succ, List.getElem_cons_zero, Act.put, List.setIfInBounds_toArray, List.set_cons_zero, List.set_cons_succ]
    refine wpTill_take (i := 5) (v := ?v5_11) rfl (by kernel_rfl) (by kernel_rfl) (by kernel_rfl) (by kernel_rfl) (fun _ _ _ h => h) (Or.inl ⟨by rfl, ?y5_11⟩) hS ?r5_11
    case y5_11 => (intro wq hq; (try simp only [cells_cons, cells_nil, and_true] at hq); first | (go_simp; done) | (go_simp; with_reducible rfl) | (obtain ⟨hq1, hq2⟩ := hq; go_simp; with_reducible rfl))
    try simp only [List.getElem_toArray, List.getElem_cons_succ, List.getElem_cons_zero, Act.put, List.setIfInBounds_toArray, List.set_cons_zero, List.set_cons_succ]
    refine wpTill_take (i := 6) (v := ?v6_12) rfl (by kernel_rfl) (by kernel_rfl) (by kernel_rfl) (by kernel_rfl) (fun _ _ _ h => h) (Or.inl ⟨by rfl, ?y6_12⟩) hS ?r6_12
    case y6_12 => (intro wq hq; (try simp only [cells_cons, cells_nil, and_true] at hq); first | (go_simp; done) | (go_simp; with_reducible rfl) | (obtain ⟨hq1, hq2⟩ := hq; go_simp; with_reducible rfl))
    try simp only [List.getElem_toArray, List.getElem_cons_succ, List.getElem_cons_zero, Act.put, List.setIfInBounds_toArray, List.set_cons_zero, List.set_cons_succ]
    refine wpTill_op (i := 2) (by kernel_rfl) rfl (fun K hK => ?_)
    go_simp
    refine hK.out _ _ (fun _ => hS.alloc _) ?_
    have hS5 := hS.alloc (.cells #[.int .i64 fn, .int .i64 fk, .bool fr, .bool fp, .int .i64 fm] 47); clear hS; have hS := hS5; clear hS5
    clear hK K
    try simp only [Act.put, List.setIfInBounds_toArray, List.set_cons_zero, List.set_cons_succ]
    have hb5 : Below w4.heap.size w4 (w4.alloc (.cells #[.int .i64 fn, .int .i64 fk, .bool fr, .bool fp, .int .i64 fm] 47)).drew := ((Below.refl _ _).alloc (Nat.le_refl _) _).drew
    have HO5 := Lib.hid (owns_below HO4.out hb5 (Nat.le_refl _))
    have HW5 := Lib.hid (World.news_of_block (w := (w4.alloc (.cells #[.int .i64 fn, .int .i64 fk, .bool fr, .bool fp, .int .i64 fm] 47)).drew) (cs := #[.int .i64 fn, .int .i64 fk, .bool fr, .bool fp, .int .i64 fm]) (t := 47) (fr := (0, 0)) (hset_drew (hset_new rfl)))
    have hq5 : ∀ g, (Value.slice a4 0 cap4).ownBlock = some g → w.heap.size < g := fun g e => by have := (HO4.out.lt g e).1; omega
    refine wpTill_op (i := 3) (by kernel_rfl) rfl (fun K hK => ?_)
    refine step_append_own rfl _ _ 41 rfl w2.heap.size 47 i0 _ 5 32 Try.underlying41 hi iz0 iz1 iz2 rfl (by decide) (.slice a4 0 cap4) 0 [] rfl HO5.out ⟨w4.heap.size, 0, none⟩ 1 1 [.int .i64 fn, .int .i64 fk, .bool fr, .bool fp, .int .i64 fm] rfl rfl HW5.out (by simp [Value.oneCell']) (by unfold maxLen; omega) (by omega) (by simp; omega) ?_
    intro v6 w6 hown6 hgr6 _
    obtain ⟨a6, cap6, rfl, _⟩ := own_sh hown6
    have hS6 := hS.grown hgr6 (by intro q hq; simp only [List.mem_cons, List.not_mem_nil, or_false] at hq; intro e; have := hq5 _ e; rcases hq with rfl | rfl | rfl | rfl | rfl <;> (simp only at this; omega))
    have hb6 : Below w2.heap.size w2 w6 := below_grown ((hb4.trans (hb5.mono hz4))) hgr6 (fun g e => (HO4.out.lt g e).1) (by simp; omega)
    simp only [Nat.zero_add, List.nil_append] at hown6; have HO6 := Lib.hid hown6; clear hown6 hgr6
    refine hK.out _ _ (fun _ => hS6) ?_
    clear hK K
    try simp only [List.getElem_toArray, List.getElem_cons_succ, List.getElem_cons_zero, Act.put, List.setIfInBounds_toArray, List.set_cons_zero, List.set_cons_succ]
    refine wpTill_op (i := 7) (by kernel_rfl) rfl (fun K hK => ?_)
    refine step_append_none rfl _ _ 41 rfl w2.heap.size 47 i0 5 Try.underlying41 hi (.slice a6 1 cap6) 1 [.int .i64 fn, .int .i64 fk, .bool fr, .bool fp, .int .i64 fm] rfl HO6.out rfl ?_
    refine hK.out _ _ (fun _ => hS6) ?_
    clear hK K
    try simp only [List.getElem_toArray, List.getElem_cons_succ, List.getElem_cons_zero, Act.put, List.setIfInBounds_toArray, List.set_cons_zero, List.set_cons_succ]
    refine wpTill_op (i := 8) (by kernel_rfl) rfl (fun K hK => ?_)
    go_simp
    refine hK.out _ _ (fun e => by cases e) ?_
    clear hK K
    refine wpTill_done (by kernel_rfl) ?_ _
    go_wp2
    go_ret
    exact ⟨a6, cap6, rfl, own_mono HO6.out (by omega), hbw.trans (hb6.mono (by omega))⟩
end Go.Proofs.Ytbpilecgnfnndaa
namespace Go.Proofs.Ytbpilecgnfnndaa
set_option linter.unusedSimpArgs false
set_option linter.unusedVariables false
open Go.ChangeShapes Go.WideShapes Go.ChangeAt Go.RowKit Go.BigFrame
theorem setRow_set2 : ∀ (rs : List ShR) (k : Nat) (r : ShR), k < rs.length → setRow (rs.flatMap ShR.cs) (k * 2) r.cs = (rs.set k r).flatMap ShR.cs
  | [], k, r, h => by simp at h
  | s :: rs, 0, r, h => by simp [setRow, ShR.cs]
  | s :: rs, k + 1, r, h => by
    have ih := setRow_set2 rs k r (by simpa using h)
    simp only [setRow, ShR.cs, List.flatMap_cons, List.set_cons_succ] at ih ⊢
    rw [show (k + 1) * 2 = k * 2 + 2 by omega]
    simpa using ih
theorem OwnShs.storeAt {w : World} {base g n cap k : Nat} {T TF : TypeId} {rs : List ShR} {xs : List Shp} (h : OwnShs w base T TF (.slice (some ⟨g, 0, none⟩) n cap) n rs xs) (hne : T ≠ TF) (hk : k < n)
    {r : ShR} {x : Shp} (hr : RowIs w base TF r x) (hap : ∀ (i : Nat) (s : ShR), i ≠ k → rs[i]? = some s → ∀ b, (Value.slice s.a s.n s.cap).ownBlock = some b → (Value.slice r.a r.n r.cap).ownBlock ≠ some b) :
    OwnShs ((w.setCell ⟨g, k * 2, none⟩ (.int .i64 r.id)).setCell ⟨g, k * 2 + 1, none⟩ (.slice r.a r.n r.cap)) base T TF (.slice (some ⟨g, 0, none⟩) n cap) n (rs.set k r) (xs.set k x) := by
  have hst := ShR.store h.outer k r
  have far : ∀ {s : ShR} {y : Shp}, RowIs w base TF s y → RowIs ((w.setCell ⟨g, k * 2, none⟩ (.int .i64 r.id)).setCell ⟨g, k * 2 + 1, none⟩ (.slice r.a r.n r.cap)) base TF s y := by
    intro s y hsy
    obtain ⟨e1, e2, e3⟩ := hsy
    refine ⟨e1, e2, ?_⟩
    have hne' : (Value.slice s.a s.n s.cap).ownBlock ≠ some g := by
      intro hg
      rcases e3.2 with ⟨e4, _⟩ | ⟨g1, c1, cur1, e4, _, hh1, _⟩
      · rw [e4] at hg; simp [Value.ownBlock] at hg
      · rw [e4] at hg
        simp [Value.ownBlock] at hg
        subst hg
        rcases h.outer.2 with ⟨e5, _⟩ | ⟨g2, c2, cur2, e5, _, hh2, _⟩
        · simp at e5
        · simp only [Value.slice.injEq, Option.some.injEq, Addr.mk.injEq] at e5
          obtain ⟨⟨rfl, _, _⟩, _, _⟩ := e5
          rw [hh1] at hh2
          simp at hh2
          exact hne hh2.2.symm
    have k1 := e3.kept (h.outer.stored (k * 2) (.int .i64 r.id)).2 (.inr hne')
    exact k1.kept ((h.outer.stored (k * 2) (.int .i64 r.id)).1.stored (k * 2 + 1) (.slice r.a r.n r.cap)).2 (.inr hne')
  refine ⟨by simp [h.len], by simp [h.lenx], ?_, ?_, ?_⟩
  · rw [← setRow_set2 rs k r (by rw [h.len]; exact hk)]; exact hst
  · intro i s y hs hy
    by_cases hi : k = i
    · subst hi
      rw [List.getElem?_set_self (by rw [h.len]; exact hk)] at hs
      rw [List.getElem?_set_self (by rw [h.lenx]; exact hk)] at hy
      simp at hs hy; subst hs; subst hy
      exact far hr
    · rw [List.getElem?_set_ne hi] at hs hy
      exact far (h.each i s y hs hy)
  · intro i j s t hs ht hij b hb hb'
    by_cases hi : k = i
    · subst hi
      rw [List.getElem?_set_self (by rw [h.len]; exact hk)] at hs
      rw [List.getElem?_set_ne hij] at ht
      simp at hs; subst hs
      exact hap j t (Ne.symm hij) ht b hb' hb
    · rw [List.getElem?_set_ne hi] at hs
      by_cases hj : k = j
      · subst hj
        rw [List.getElem?_set_self (by rw [h.len]; exact hk)] at ht
        simp at ht; subst ht
        exact hap i s (Ne.symm hi) hs b hb hb'
      · rw [List.getElem?_set_ne hj] at ht
        exact h.apart i j s t hs ht hij b hb hb'
theorem OwnShs.zeros {w : World} {base n : Nat} {T TF : TypeId} {v : Value} (h : w.ownsRow base T 2 v n ((List.replicate n (⟨0, none, 0, 0⟩ : ShR)).flatMap ShR.cs)) :
    OwnShs w base T TF v n (List.replicate n ⟨0, none, 0, 0⟩) (List.replicate n ⟨0, []⟩) := by
  refine ⟨by simp, by simp, h, ?_, ?_⟩
  · intro k r x hr hx
    obtain ⟨_, rfl⟩ := List.getElem?_eq_some_iff.1 hr
    obtain ⟨_, rfl⟩ := List.getElem?_eq_some_iff.1 hx
    simp only [List.getElem_replicate]
    exact ⟨rfl, rfl, World.ownsRow_nil _ _ _ _⟩
  · intro i j r s hr hs hij g hg
    obtain ⟨_, rfl⟩ := List.getElem?_eq_some_iff.1 hr
    simp [Value.ownBlock] at hg
def cfld (xs : List Shp) (f : Fld) : Fld := ⟨f.number, f.kind, f.rep, f.packed, if f.kind = 8 then (rankS xs f.msg : Nat) else -1⟩
def cflds (xs : List Shp) : List Fld → List Fld → List Fld
  | l, [] => l
  | l, f :: fs => cflds xs (putF l (cfld xs f)) fs
theorem cflds_len (xs : List Shp) : ∀ (fs l : List Fld), (cflds xs l fs).length = l.length + fs.length
  | [], l => rfl
  | f :: fs, l => by rw [cflds, cflds_len xs fs, putF_len]; simp; omega
def cgo (xs : List Shp) : List Shp → List Shp → List Shp
  | ys, [] => ys
  | ys, x :: rest => cgo xs (ys.set (rankS xs x.id) ⟨x.id, cflds xs [] x.flds⟩) rest
def compS (xs : List Shp) : List Shp := cgo xs (List.replicate xs.length ⟨0, []⟩) xs
theorem cgo_len (xs : List Shp) : ∀ (rest ys : List Shp), (cgo xs ys rest).length = ys.length
  | [], ys => rfl
  | x :: rest, ys => by rw [cgo, cgo_len xs rest]; simp
theorem compS_len (xs : List Shp) : (compS xs).length = xs.length := by rw [compS, cgo_len]; simp
theorem filter_lt {α : Type} {p : α → Bool} : ∀ {xs : List α} {x : α}, x ∈ xs → p x = false → (xs.filter p).length < xs.length
  | y :: ys, x, h, hp => by
    rcases List.mem_cons.1 h with rfl | h'
    · rw [List.filter_cons_of_neg (by simp [hp])]
      exact Nat.lt_succ_of_le (List.length_filter_le _ _)
    · have := filter_lt h' hp
      by_cases hy : p y = true
      · rw [List.filter_cons_of_pos hy]; simp only [List.length_cons]; omega
      · rw [List.filter_cons_of_neg (by simpa using hy)]; simp only [List.length_cons]; omega
theorem rank_lt {xs : List Shp} {x : Shp} (h : x ∈ xs) : rankS xs x.id < xs.length := filter_lt h (by simp)
theorem c_step {xs : List Shp} {fs l : List Fld} {f : Fld} {k : Nat} {R : List Fld} (h : cflds xs l (fs.drop k) = R) (hf : fs[k]? = some f) : cflds xs (putF l (cfld xs f)) (fs.drop (k + 1)) = R := by
  rw [drop_cons hf] at h; exact h
theorem c_end {xs : List Shp} {fs l : List Fld} {k : Nat} {R : List Fld} (h : cflds xs l (fs.drop k) = R) (hk : fs.length ≤ k) : l = R := by
  rw [List.drop_of_length_le hk] at h; exact h
theorem g_step {xs ys zs : List Shp} {x : Shp} {k : Nat} {R : List Shp} (h : cgo xs ys (zs.drop k) = R) (hx : zs[k]? = some x) : cgo xs (ys.set (rankS xs x.id) ⟨x.id, cflds xs [] x.flds⟩) (zs.drop (k + 1)) = R := by
  rw [drop_cons hx] at h; exact h
theorem g_end {xs ys zs : List Shp} {k : Nat} {R : List Shp} (h : cgo xs ys (zs.drop k) = R) (hk : zs.length ≤ k) : ys = R := by
  rw [List.drop_of_length_le hk] at h; exact h
theorem own_capC {w : World} {base n cap size : Nat} {t : TypeId} {a : Option Addr} {L : List Value} (h : w.ownsRow base t size (.slice a n cap) n L) : n ≤ cap := by
  rcases h.2 with ⟨e, h0⟩ | ⟨g, c, cur, e, _, _, hc, _⟩
  · simp only [Value.slice.injEq] at e; omega
  · simp only [Value.slice.injEq] at e; omega
set_option maxHeartbeats 1000000 in
theorem l8Put_own {B cap n : Nat} {a : Option Addr} {fs : List Fld} (f : Fld) (w : World) (h : w.ownsRow B 47 5 (.slice a n cap) n (fs.flatMap Fld.cs)) (hn : n ≤ 1000) :
    Calls Try.prog 55 #[.slice a n cap, f.val] w fun r w' => ∃ a' cap', r = .returned (.slice a' (n + 1) cap') ∧ w'.ownsRow w.heap.size 47 5 (.slice a' (n + 1) cap') (n + 1) ((putF fs f).flatMap Fld.cs) ∧ Below w.heap.size w w' := by
  have hl : fs.length = n := by have := h.1; rw [flatMap_len fld_len] at this; omega
  have hs := flds_of_own h hl
  have hc := own_capC h
  rcases h.2 with ⟨e, rfl⟩ | ⟨g, c, cur, e, -⟩
  · simp only [Value.slice.injEq] at e
    obtain ⟨rfl, -, rfl⟩ := e
    have e0 : fs = [] := List.eq_nil_of_length_eq_zero hl
    subst e0
    refine (l8Put_nil f w).mono ?_
    rintro r w1 ⟨a', cap', rfl, ho, hb⟩
    exact ⟨a', cap', rfl, by simpa [putF] using ho, hb⟩
  · simp only [Value.slice.injEq] at e
    obtain ⟨rfl, -, rfl⟩ := e
    exact l8Put_any g cap n fs f w hs hl hn hc
end Go.Proofs.Ytbpilecgnfnndaa
namespace Go.Proofs.Ytbpilecgnfnndaa
set_option linter.unusedSimpArgs false
set_option linter.unusedVariables false
open Go.ChangeShapes Go.WideShapes Go.ChangeAt Go.RowKit Go.BigFrame
theorem own_box {w : World} {base n size : Nat} {t : TypeId} {v : Value} {L : List Value} (h : w.ownsRow base t size v n L) {g : Nat} (hg : v.ownBlock = some g) : ∃ cur, w.heap[g]? = some (.cells cur t (0, 0)) := by
  rcases h.2 with ⟨rfl, _⟩ | ⟨g', cap, cur, rfl, _, hh, _⟩
  · simp [Value.ownBlock] at hg
  · simp [Value.ownBlock] at hg; subst hg; exact ⟨cur, hh⟩
theorem own_at {w : World} {base n cap size g : Nat} {t : TypeId} {L : List Value} (h : w.ownsRow base t size (.slice (some ⟨g, 0, none⟩) n cap) n L) {j : Nat} {u : Value} (hj : L[j]? = some u) : w.cell? ⟨g, j, none⟩ = some u := by
  have := h.cells (g := g) rfl j u hj
  by_cases h0 : j = 0
  · subst h0; simpa [Addr.add] using this
  · simpa [Addr.add, h0] using this
theorem shr_setF : ∀ (rs : List ShR) (k : Nat) (r s : ShR), rs[k]? = some r → s.id = r.id → (rs.flatMap ShR.cs).set (k * 2 + 1) (.slice s.a s.n s.cap) = (rs.set k s).flatMap ShR.cs
  | [], k, r, s, h, _ => by simp at h
  | x :: rs, 0, r, s, h, hid => by
    simp at h; subst h
    simp [ShR.cs, hid]
  | x :: rs, k + 1, r, s, h, hid => by
    have ih := shr_setF rs k r s (by simpa using h) hid
    simp only [List.flatMap_cons, List.set_cons_succ, ShR.cs] at ih ⊢
    rw [show (k + 1) * 2 + 1 = (k * 2 + 1) + 1 + 1 by omega]
    simpa using ih
theorem shr_setId : ∀ (rs : List ShR) (k : Nat) (r s : ShR), rs[k]? = some r → s.a = r.a → s.n = r.n → s.cap = r.cap → (rs.flatMap ShR.cs).set (k * 2) (.int .i64 s.id) = (rs.set k s).flatMap ShR.cs
  | [], k, r, s, h, _, _, _ => by simp at h
  | x :: rs, 0, r, s, h, h1, h2, h3 => by
    simp at h; subst h
    simp [ShR.cs, h1, h2, h3]
  | x :: rs, k + 1, r, s, h, h1, h2, h3 => by
    have ih := shr_setId rs k r s (by simpa using h) h1 h2 h3
    simp only [List.flatMap_cons, List.set_cons_succ, ShR.cs] at ih ⊢
    rw [show (k + 1) * 2 = (k * 2) + 1 + 1 by omega]
    simpa using ih
section
variable {w w' : World} {base n q : Nat} {T TF : TypeId} {v : Value} {rs : List ShR} {xs : List Shp} {r : ShR} {x : Shp}
theorem OwnShs.outerNe (h : OwnShs w base T TF v n rs xs) (hne : T ≠ TF) (hr : rs[q]? = some r) (hx : xs[q]? = some x) {b : Nat} (hb : (Value.slice r.a r.n r.cap).ownBlock = some b) : v.ownBlock ≠ some b := by
  intro e
  obtain ⟨c1, h1⟩ := own_box h.outer e
  obtain ⟨c2, h2⟩ := own_box (h.each q r x hr hx).2.2 hb
  rw [h1] at h2
  simp at h2
  exact hne h2.2
theorem OwnShs.outerKept (h : OwnShs w base T TF v n rs xs) (hne : T ≠ TF) (hr : rs[q]? = some r) (hx : xs[q]? = some x) (hg : w.grownBy w' (Value.slice r.a r.n r.cap).ownBlock) : w'.ownsRow base T 2 v n (rs.flatMap ShR.cs) := by
  cases hb : (Value.slice r.a r.n r.cap).ownBlock with
  | none =>
    refine h.outer.kept hg ?_
    rw [hb]
    cases hv : v.ownBlock with
    | none => exact .inl rfl
    | some g => exact .inr (by simp)
  | some b => exact h.outer.kept hg (.inr (by rw [hb]; exact h.outerNe hne hr hx hb))
theorem OwnShs.eachKept (h : OwnShs w base T TF v n rs xs) (hr : rs[q]? = some r) (hg : w.grownBy w' (Value.slice r.a r.n r.cap).ownBlock) {i : Nat} {s : ShR} {y : Shp} (hi : i ≠ q) (hs : rs[i]? = some s) (hy : xs[i]? = some y) : RowIs w' base TF s y := by
  obtain ⟨e1, e2, e3⟩ := h.each i s y hs hy
  refine ⟨e1, e2, e3.kept hg ?_⟩
  cases hb : (Value.slice s.a s.n s.cap).ownBlock with
  | none => exact .inl rfl
  | some b => exact .inr (fun e => h.apart i q s r hs hr hi b hb e.symm)
theorem OwnShs.row (h : OwnShs w base T TF v n rs xs) (hne : T ≠ TF) (hr : rs[q]? = some r) (hx : xs[q]? = some x) (hg : w.grownBy w' (Value.slice r.a r.n r.cap).ownBlock) {fs : List Fld} (hl : r.n = fs.length) (ho : w'.ownsRow base TF 5 (.slice r.a r.n r.cap) r.n (fs.flatMap Fld.cs)) :
    OwnShs w' base T TF v n rs (xs.set q ⟨x.id, fs⟩) := by
  refine ⟨h.len, by simp [h.lenx], h.outerKept hne hr hx hg, ?_, h.apart⟩
  intro i s y hs hy
  by_cases hi : q = i
  · subst hi
    rw [List.getElem?_set_self (List.getElem?_eq_some_iff.1 hx).1] at hy
    simp at hy; subst hy
    rw [hr] at hs; simp at hs; subst hs
    exact ⟨(h.each q r x hr hx).1, hl, ho⟩
  · rw [List.getElem?_set_ne hi] at hy
    exact h.eachKept hr hg (Ne.symm hi) hs hy
theorem OwnShs.growAt {g cap : Nat} (h : OwnShs w base T TF (.slice (some ⟨g, 0, none⟩) n cap) n rs xs) (hne : T ≠ TF) (hr : rs[q]? = some r) (hx : xs[q]? = some x) (hg : w.grownBy w' (Value.slice r.a r.n r.cap).ownBlock) {a' : Option Addr} {m' cap' : Nat} {fs : List Fld}
    (hl : m' = fs.length) (ho : w'.ownsRow base TF 5 (.slice a' m' cap') m' (fs.flatMap Fld.cs)) (hat : ∀ b, (Value.slice a' m' cap').ownBlock = some b → (Value.slice r.a r.n r.cap).ownBlock = some b ∨ w.heap.size ≤ b) :
    OwnShs (w'.setCell ⟨g, q * 2 + 1, none⟩ (.slice a' m' cap')) base T TF (.slice (some ⟨g, 0, none⟩) n cap) n (rs.set q ⟨r.id, a', m', cap'⟩) (xs.set q ⟨x.id, fs⟩) := by
  have hout := h.outerKept hne hr hx hg
  have hst := hout.stored (q * 2 + 1) (.slice a' m' cap')
  have hgl := (h.outer.lt g rfl).2
  have far : ∀ {s : ShR} {y : Shp}, RowIs w' base TF s y → RowIs (w'.setCell ⟨g, q * 2 + 1, none⟩ (.slice a' m' cap')) base TF s y := by
    intro s y ⟨e1, e2, e3⟩
    refine ⟨e1, e2, e3.kept hst.2 (.inr ?_)⟩
    intro e
    obtain ⟨c1, h1⟩ := own_box hout (g := g) rfl
    obtain ⟨c2, h2⟩ := own_box e3 e
    rw [h1] at h2
    simp at h2
    exact hne h2.2
  have hq := (List.getElem?_eq_some_iff.1 hr).1
  refine ⟨by simp [h.len], by simp [h.lenx], ?_, ?_, ?_⟩
  · have := hst.1
    rw [shr_setF rs q r ⟨r.id, a', m', cap'⟩ hr rfl] at this
    exact this
  · intro i s y hs hy
    by_cases hi : q = i
    · subst hi
      rw [List.getElem?_set_self hq] at hs
      rw [List.getElem?_set_self (List.getElem?_eq_some_iff.1 hx).1] at hy
      simp at hs hy; subst hs; subst hy
      exact far ⟨(h.each q r x hr hx).1, hl, ho⟩
    · rw [List.getElem?_set_ne hi] at hs hy
      exact far (h.eachKept hr hg (Ne.symm hi) hs hy)
  · have key : ∀ {j : Nat} {t : ShR} {y : Shp}, j ≠ q → rs[j]? = some t → xs[j]? = some y → ∀ b, (Value.slice a' m' cap').ownBlock = some b → (Value.slice t.a t.n t.cap).ownBlock ≠ some b := by
      intro j t y hj ht hy b hb hb'
      rcases hat b hb with h1 | h1
      · exact h.apart j q t r ht hr hj b hb' h1
      · have := ((h.each j t y ht hy).2.2.lt b hb').2
        omega
    have some_ : ∀ {j : Nat} {t : ShR}, rs[j]? = some t → ∃ y, xs[j]? = some y := by
      intro j t ht
      have := (List.getElem?_eq_some_iff.1 ht).1
      rw [h.len, ← h.lenx] at this
      exact ⟨xs[j], List.getElem?_eq_getElem this⟩
    intro i j s t hs ht hij b hb hb'
    by_cases hi : q = i
    · subst hi
      rw [List.getElem?_set_self hq] at hs
      rw [List.getElem?_set_ne hij] at ht
      simp at hs; subst hs
      obtain ⟨y, hy⟩ := some_ ht
      exact key (Ne.symm hij) ht hy b hb hb'
    · rw [List.getElem?_set_ne hi] at hs
      by_cases hj : q = j
      · subst hj
        rw [List.getElem?_set_self hq] at ht
        simp at ht; subst ht
        obtain ⟨y, hy⟩ := some_ hs
        exact key hij hs hy b hb' hb
      · rw [List.getElem?_set_ne hj] at ht
        exact h.apart i j s t hs ht hij b hb hb'
theorem OwnShs.setId {g cap : Nat} (h : OwnShs w base T TF (.slice (some ⟨g, 0, none⟩) n cap) n rs xs) (hne : T ≠ TF) (hr : rs[q]? = some r) (hx : xs[q]? = some x) (i : Int) :
    OwnShs (w.setCell ⟨g, q * 2, none⟩ (.int .i64 i)) base T TF (.slice (some ⟨g, 0, none⟩) n cap) n (rs.set q ⟨i, r.a, r.n, r.cap⟩) (xs.set q ⟨i, x.flds⟩) := by
  have hst := h.outer.stored (q * 2) (.int .i64 i)
  have far : ∀ {s : ShR} {y : Shp}, RowIs w base TF s y → RowIs (w.setCell ⟨g, q * 2, none⟩ (.int .i64 i)) base TF s y := by
    intro s y ⟨e1, e2, e3⟩
    refine ⟨e1, e2, e3.kept hst.2 (.inr ?_)⟩
    intro e
    obtain ⟨c1, h1⟩ := own_box h.outer (g := g) rfl
    obtain ⟨c2, h2⟩ := own_box e3 e
    rw [h1] at h2
    simp at h2
    exact hne h2.2
  have hq := (List.getElem?_eq_some_iff.1 hr).1
  refine ⟨by simp [h.len], by simp [h.lenx], ?_, ?_, ?_⟩
  · have := hst.1
    rw [shr_setId rs q r ⟨i, r.a, r.n, r.cap⟩ hr rfl rfl rfl] at this
    exact this
  · intro j s y hs hy
    by_cases hj : q = j
    · subst hj
      rw [List.getElem?_set_self hq] at hs
      rw [List.getElem?_set_self (List.getElem?_eq_some_iff.1 hx).1] at hy
      simp at hs hy; subst hs; subst hy
      obtain ⟨-, e2, e3⟩ := h.each q r x hr hx
      exact far ⟨rfl, e2, e3⟩
    · rw [List.getElem?_set_ne hj] at hs hy
      exact far (h.each j s y hs hy)
  · have same : ∀ {j : Nat} {t : ShR}, (rs.set q ⟨i, r.a, r.n, r.cap⟩)[j]? = some t → ∃ t0, rs[j]? = some t0 ∧ t0.a = t.a ∧ t0.n = t.n ∧ t0.cap = t.cap := by
      intro j t ht
      by_cases hj : q = j
      · subst hj
        rw [List.getElem?_set_self hq] at ht
        simp at ht; subst ht
        exact ⟨r, hr, rfl, rfl, rfl⟩
      · rw [List.getElem?_set_ne hj] at ht
        exact ⟨t, ht, rfl, rfl, rfl⟩
    intro j k s t hs ht hjk b hb hb'
    obtain ⟨s0, hs0, e1, e2, e3⟩ := same hs
    obtain ⟨t0, ht0, f1, f2, f3⟩ := same ht
    exact h.apart j k s0 t0 hs0 ht0 hjk b (by rw [e1, e2, e3]; exact hb) (by rw [f1, f2, f3]; exact hb')
end
end Go.Proofs.Ytbpilecgnfnndaa
namespace Go.Proofs.Ytbpilecgnfnndaa
set_option linter.unusedSimpArgs false
set_option linter.unusedVariables false
open Go.ChangeShapes Go.WideShapes Go.ChangeAt Go.RowKit Go.BigFrame
@[go_sem] theorem i64_and255 (n : Int) : bits .and .i64 n 255 = n % 256 := by
  have h127 : (BitVec.ofInt 64 255).toNat = 2 ^ 8 - 1 := by decide
  have key : (BitVec.ofInt 64 n &&& BitVec.ofInt 64 255).toNat = (n % ((2 ^ 64 : Nat) : Int)).toNat % 2 ^ 8 := by
    rw [BitVec.toNat_and, BitVec.toNat_ofInt, h127, Nat.and_two_pow_sub_one_eq_mod]
  show IntKind.i64.wrap ((BitVec.ofInt 64 n &&& BitVec.ofInt 64 255).toNat : Nat) = n % 256
  rw [key, IntKind.wrap_i64]
  omega
@[go_sem] theorem i64_and30 (n : Int) : bits .and .i64 n 1073741823 = n % 1073741824 := by
  have h127 : (BitVec.ofInt 64 1073741823).toNat = 2 ^ 30 - 1 := by decide
  have key : (BitVec.ofInt 64 n &&& BitVec.ofInt 64 1073741823).toNat = (n % ((2 ^ 64 : Nat) : Int)).toNat % 2 ^ 30 := by
    rw [BitVec.toNat_and, BitVec.toNat_ofInt, h127, Nat.and_two_pow_sub_one_eq_mod]
  show IntKind.i64.wrap ((BitVec.ofInt 64 n &&& BitVec.ofInt 64 1073741823).toNat : Nat) = n % 1073741824
  rw [key, IntKind.wrap_i64]
  omega
def Oth (B : Nat) (w w' : World) : Prop := w.grownBy w' (some B)
theorem Oth.refl (B : Nat) (w : World) : Oth B w w := ⟨rfl, rfl, rfl, Nat.le_refl _, fun _ _ _ => rfl⟩
theorem Oth.size {B : Nat} {w w' : World} (h : Oth B w w') : w.heap.size ≤ w'.heap.size := World.grownBy.size h
theorem Oth.block {B : Nat} {w w' : World} (h : Oth B w w') {b : Nat} (hb : b < w.heap.size) (hn : b ≠ B) : w'.heap[b]? = w.heap[b]? := World.grownBy.block h b hb (by simpa using hn)
theorem Oth.trans {B : Nat} {w w1 w2 : World} (h : Oth B w w1) (k : Oth B w1 w2) : Oth B w w2 :=
  ⟨(World.grownBy.os k).trans (World.grownBy.os h), (World.grownBy.tape k).trans (World.grownBy.tape h), (World.grownBy.output k).trans (World.grownBy.output h), Nat.le_trans h.size k.size,
    fun b hb hn => (World.grownBy.block k b (Nat.lt_of_lt_of_le hb h.size) hn).trans (World.grownBy.block h b hb hn)⟩
theorem Oth.of_below {B : Nat} {w w' : World} (h : Below w.heap.size w w') : Oth B w w' := ⟨h.os, h.tape, h.output, h.size, fun b hb _ => h.block b hb⟩
theorem Oth.setCell {B o : Nat} {w w' : World} (h : Oth B w w') (v : Value) : Oth B w (w'.setCell ⟨B, o, none⟩ v) := by
  refine h.trans ⟨rfl, rfl, rfl, by simp, fun b hb hn => ?_⟩
  exact heap_setCell_other w' ⟨B, o, none⟩ b v (fun e => hn (by simp [e]))
theorem Oth.below {B n : Nat} {w w' : World} (h : Oth B w w') (hn : n ≤ B) (hs : B < w.heap.size) : Below n w w' :=
  ⟨World.grownBy.os h, World.grownBy.tape h, World.grownBy.output h, h.size, fun b hb => h.block (by omega) (by omega)⟩
def Bys (w : World) (B : Nat) (a : Option Addr) (n : Nat) : Prop := ∀ k, k < n → ∃ b off, a = some ⟨b, off, none⟩ ∧ b < B ∧ ∃ x : Int, 0 ≤ x ∧ x ≤ 255 ∧ w.cell? ⟨b, off + k, none⟩ = some (.int .u8 x)
theorem Bys.oth {w w' : World} {B n : Nat} {a : Option Addr} (h : Bys w B a n) (ho : Oth B w w') (hB : B ≤ w.heap.size) : Bys w' B a n := by
  intro k hk
  obtain ⟨b, off, e, hb, y, hy0, hy1, cy⟩ := h k hk
  refine ⟨b, off, e, hb, y, hy0, hy1, ?_⟩
  have := ho.block (b := b) (by omega) (by omega)
  exact (World.cell?_of_block (w := w) (a := ⟨b, off + k, none⟩) this).trans cy
def Cur (w : World) (B : Nat) : Prop := ∃ (a : Option Addr) (n cap i : Nat) (h : Int), w.heap[B]? = some (.cells #[.slice a n cap, .int .i64 i, .int .i64 h] 97 (0, 0)) ∧ i ≤ n ∧ n ≤ 1048576 ∧ Bys w B a n
theorem Cur.lt {w : World} {B : Nat} (h : Cur w B) : B < w.heap.size := by
  obtain ⟨a, n, cap, i, x, hh, _⟩ := h
  rcases Nat.lt_or_ge B w.heap.size with h | h
  · exact h
  · rw [Array.getElem?_eq_none h] at hh; simp at hh
def Drawn (B : Nat) (lo hi : Int) (w : World) (r : Ending) (w' : World) : Prop := ∃ x : Int, r = .returned (.int .i64 x) ∧ lo ≤ x ∧ x ≤ hi ∧ Cur w' B ∧ Oth B w w'
set_option maxHeartbeats 2000000 in
theorem l1Byte_any (B : Nat) (w : World) (hc : Cur w B) : Calls Try.prog 88 #[.pointer (some ⟨B, 0, none⟩)] w (Drawn B 0 255 w) := by
  have hlt := hc.lt
  obtain ⟨a, n, cap, i, h, hh, hi, hn, hb⟩ := hc
  have c0 : w.cell? ⟨B, 0, none⟩ = some (.slice a n cap) := by simp [World.cell?, hh]
  have c1 : w.cell? ⟨B, 1, none⟩ = some (.int .i64 i) := by simp [World.cell?, hh]
  have c2 : w.cell? ⟨B, 2, none⟩ = some (.int .i64 h) := by simp [World.cell?, hh]
  have hfz : ∀ j, w.frozen? ⟨B, j, none⟩ = false := fun j => by simp [World.frozen?, hh]
  have HH := Lib.hid hh; clear hh
  by_cases hin : i < n
  · obtain ⟨b, off, rfl, hbB, x, hx0, hx1, cx⟩ := hb i hin
    have hbB' : b ≠ B := by omega
    go_enter Try.func88, Try.ntmps88
    go_wp2
    (refine wp_region_ext (by kernel_rfl) (by kernel_rfl) ?_; (repeat (go_big_quiet_step (fail))); refine wpQuiet_nil ?_; intro w1 hb1; obtain ⟨hc1, hf1⟩ := bcell hb1; have hz1 := hb1.size; (try simp only [World.size_alloc, World.size_setCell, World.size_drew] at hz1))
    have hB1 : B < w1.heap.size := by omega
    go_wp2
    (refine wp_region_ext (by kernel_rfl) (by kernel_rfl) ?_; (repeat (go_big_quiet_step (fail))); refine wpQuiet_nil ?_; intro w2 hb2; obtain ⟨hc2, hf2⟩ := bcell hb2; have hz2 := hb2.size; (try simp only [World.size_alloc, World.size_setCell, World.size_drew] at hz2))
    have hB2 : B < w2.heap.size := by omega
    have hb1' : b < w1.heap.size := by omega
    have hb2' : b < w2.heap.size := by omega
    have hin' : (i : Int) < n := by omega
    have cx2 : w2.cell? ⟨b, off + i, none⟩ = some (.int .u8 x) := by
      rw [hb2.cell (p := ⟨b, off + i, none⟩) hb1', hb1.cell (p := ⟨b, off + i, none⟩) (by simp; omega), World.cell?_setCell_far w ⟨B, 2, none⟩ ⟨b, off + i, none⟩ _ (Ne.symm hbB')]; exact cx
    have g1 := (hb1.block B (by simpa using hlt)).trans (heap_setCell_same w B 2 _ _ (.int .i64 (wrap64 (wrap64 (h * 6364136223846793005) + 1442695040888963407))) HH.out)
    have g2 := Lib.hid ((hb2.block B hB1).trans g1)
    have d0 : w2.cell? ⟨B, 0, none⟩ = some (.slice (some ⟨b, off, none⟩) n cap) := by simp [World.cell?, g2.out]
    have d1 : w2.cell? ⟨B, 1, none⟩ = some (.int .i64 i) := by simp [World.cell?, g2.out]
    have hfz2 : ∀ j, w2.frozen? ⟨B, j, none⟩ = false := fun j => by simp [World.frozen?, g2.out]
    clear hc1 hc2 hf1 hf2 g1 c0 c1 c2 hfz
    go_wp2
    (refine wp_region_ext (by kernel_rfl) (by kernel_rfl) ?_; (repeat (go_big_quiet_step (fail))); refine wpQuiet_nil ?_; intro w3 hb3; obtain ⟨hc3, hf3⟩ := bcell hb3; have hz3 := hb3.size; (try simp only [World.size_alloc, World.size_setCell, World.size_drew] at hz3))
    have hB3 : B < w3.heap.size := by omega
    go_wp2
    go_ret
    have g3 := (hb3.block B hB2).trans g2.out
    have hO : Oth B w (w3.setCell ⟨B, 1, none⟩ (.int .i64 (i + 1 : Nat))) := ((((Oth.refl B w).setCell _).trans (Oth.of_below hb1)).trans ((Oth.of_below hb2).trans (Oth.of_below hb3))).setCell _
    refine ⟨_, rfl, by omega, by omega, ⟨_, n, cap, i + 1, _, heap_setCell_same w3 B 1 _ _ (.int .i64 (i + 1 : Nat)) g3, by omega, hn, ?_⟩, ?_⟩
    · exact hb.oth hO (by omega)
    · exact hO
  · have hin' : ¬ (i : Int) < n := by omega
    go_enter Try.func88, Try.ntmps88
    go_wp2
    (refine wp_region_ext (by kernel_rfl) (by kernel_rfl) ?_; (repeat (go_big_quiet_step (fail))); refine wpQuiet_nil ?_; intro w1 hb1; obtain ⟨hc1, hf1⟩ := bcell hb1; have hz1 := hb1.size; (try simp only [World.size_alloc, World.size_setCell, World.size_drew] at hz1))
    have hB1 : B < w1.heap.size := by omega
    go_wp2
    (refine wp_region_ext (by kernel_rfl) (by kernel_rfl) ?_; (repeat (go_big_quiet_step (fail))); refine wpQuiet_nil ?_; intro w2 hb2; obtain ⟨hc2, hf2⟩ := bcell hb2; have hz2 := hb2.size; (try simp only [World.size_alloc, World.size_setCell, World.size_drew] at hz2))
    go_wp2
    go_ret
    have g1 := (hb1.block B (by simpa using hlt)).trans (heap_setCell_same w B 2 _ _ (.int .i64 (wrap64 (wrap64 (h * 6364136223846793005) + 1442695040888963407))) HH.out)
    have g2 := (hb2.block B hB1).trans g1
    have hO : Oth B w w2 := (((Oth.refl B w).setCell _).trans (Oth.of_below hb1)).trans (Oth.of_below hb2)
    exact ⟨_, rfl, by omega, by omega, ⟨a, n, cap, i, _, g2, hi, hn, hb.oth hO (by omega)⟩, hO⟩
set_option maxHeartbeats 2000000 in
theorem l1Below_any (B : Nat) (n : Int) (w : World) (hc : Cur w B) (h0 : 0 < n) (h1 : n ≤ 256) : Calls Try.prog 63 #[.pointer (some ⟨B, 0, none⟩), .int .i64 n] w (Drawn B 0 (n - 1) w) := by
  have hn0 : ¬ n ≤ 0 := by omega
  have hn1 : 1 ≤ n := by omega
  go_enter Try.func63, Try.ntmps63
  go_wp2_with fail
  refine (l1Byte_any B w hc).mono ?_
  rintro r w1 ⟨x, rfl, hx0, hx1, hc1, ho1⟩
  have hm0 : 0 ≤ x % n := Int.emod_nonneg _ (by omega)
  have hm1 : x % n < n := Int.emod_lt_of_pos _ h0
  go_wp2
  go_ret
  exact ⟨_, rfl, by omega, by omega, hc1, ho1⟩
def Code (w : World) (a : Option Addr) (n : Nat) : Prop := ∀ k, k < n → ∃ b off, a = some ⟨b, off, none⟩ ∧ b < w.heap.size ∧ ∃ x : Int, 0 ≤ x ∧ x ≤ 255 ∧ w.cell? ⟨b, off + k, none⟩ = some (.int .u8 x)
theorem Code.keep {w w' : World} {a : Option Addr} {n : Nat} (h : Code w a n) (hb : Below w.heap.size w w') : Code w' a n := by
  intro k hk
  obtain ⟨b, off, e, hb1, y, hy0, hy1, cy⟩ := h k hk
  exact ⟨b, off, e, Nat.lt_of_lt_of_le hb1 hb.size, y, hy0, hy1, (hb.cell (p := ⟨b, _, none⟩) hb1).trans cy⟩
@[reducible] def byCs (x : Int) : List Value := [.int .u8 x]
def ByOk (x : Int) : Prop := 0 ≤ x ∧ x ≤ 255
theorem code_of {w : World} {a : Option Addr} {cap : Nat} {xs : List Int} (h : (⟨a, cap, xs⟩ : SlArg Int).ok 1 byCs ByOk w) : Code w a xs.length := by
  intro k hk
  obtain ⟨b, off, e, hb, hc⟩ := h.sl k xs[k] (List.getElem?_eq_getElem hk)
  exact ⟨b, off, e, hb, xs[k], (h.each _ (List.getElem_mem hk)).1, (h.each _ (List.getElem_mem hk)).2, by simpa using hc 0 _ rfl⟩
theorem flat_bytes : flat Try.prog 9 22 = some [.sl [CK.int .u8]] := by kernel_rfl
theorem cells_bytes : Try.prog.cellsOf 22 = 1 := by kernel_rfl
set_option maxRecDepth 100000 in
theorem openBytes {H : Type} {enc : TypeId × Value → H} {W : World} {base : Nat} {sp : Nat → Bool} {v : Value} {d : DataW H} {ps : List MemPlace}
    (hv : Value.okWide Try.prog W .any base 22 v) (h : DataW.Trod enc Try.prog W 0 sp true 22 v d ps) : ∃ x : SlArg Int, v = x.val ∧ x.ok 1 byCs ByOk W := by
  obtain ⟨a0, len, cap, rfl⟩ := okWide_slice Try.underlying22 hv
  obtain ⟨x, hx, hk⟩ := flat_trod flat_bytes cells_bytes h 0 _ rfl
  simp only [Value.cells, List.getElem?_cons_zero, Option.some.injEq] at hx
  subst hx
  refine sl_open (hk 2) rfl (by omega) (fun _ => rfl) fun l hl hj => ?_
  match l, hl with
  | [c], _ =>
    obtain ⟨x0, e0, h0⟩ := hj 0 _ rfl
    obtain ⟨n0, rfl, w0⟩ := ok_int h0
    simp at e0
    exact ⟨n0, by simp [byCs, e0], by simpa [Lit.wf, IntKind.min, IntKind.max, IntKind.signed, IntKind.bits, ByOk] using w0⟩
def NewCur (w : World) (r : Ending) (w' : World) : Prop := ∃ B, r = .returned (.pointer (some ⟨B, 0, none⟩)) ∧ w.heap.size ≤ B ∧ Cur w' B ∧ Below w.heap.size w w'
theorem newCur_mk {w : World} {a : Option Addr} {n cap : Nat} {m : Int} (h : Code w a n) (hn : n ≤ 1048576) :
    NewCur w (.returned (.pointer (some ⟨w.heap.size, 0, none⟩))) (w.alloc (.cells #[.slice a n cap, .int .i64 0, .int .i64 m] 97)) := by
  refine ⟨w.heap.size, rfl, Nat.le_refl _, ⟨a, n, cap, 0, m, heap_alloc_new w _, Nat.zero_le _, hn, ?_⟩, (Below.refl _ _).alloc (Nat.le_refl _) _⟩
  intro k hk
  obtain ⟨b, off, e, hb, y, hy0, hy1, cy⟩ := h k hk
  exact ⟨b, off, e, hb, y, hy0, hy1, ((Below.refl w.heap.size w).alloc (Nat.le_refl _) _).cell (p := ⟨b, _, none⟩) hb |>.trans cy⟩
set_option maxRecDepth 100000 in
set_option maxHeartbeats 2000000 in
theorem l1New_any (a : Option Addr) (cap n : Nat) (w : World) (h : Code w a n) (hn : n ≤ 1048576) : Calls Try.prog 31 #[.slice a n cap] w (NewCur w) := by
  go_enter Try.func31, Try.ntmps31
  go_wp2
  go_loop [3, 4] (fun t i => ∃ k : Nat, k ≤ n ∧ i = .int .i64 k ∧ ∃ m : Int, t = .int .i64 m) (fun _ i => n - (intOf i).toNat)
  case atStart => exact ⟨0, Nat.zero_le _, rfl, _, rfl⟩
  case round =>
    obtain ⟨k, hk, rfl, m, rfl⟩ := hrel
    by_cases hlt : k < n
    · obtain ⟨b, off, rfl, hb, x, hx0, hx1, cx⟩ := h k hlt
      by_cases h4 : k < 4000
      · go_wp2
        go_round
        case rel => exact ⟨k + 1, by omega, by go_num, _, rfl⟩
        case measure => simp [intOf]; omega
      · go_wp2
        go_ret
        exact newCur_mk h hn
    · go_wp2
      go_ret
      exact newCur_mk h hn
theorem big_any (a : Option Addr) (cap n : Nat) (w : World) : Calls Try.prog 6 #[.slice a n cap] w fun r w' => r = .returned (.bool (decide (1048576 < (n : Int)))) ∧ w = w' := by
  go_enter Try.func6, Try.ntmps6
  go_wp2
  go_ret
  exact ⟨ret_bool (by simp), rfl⟩
theorem Code.tail {w : World} {b off n : Nat} (h : Code w (some ⟨b, off, none⟩) n) : Code w (some ⟨b, off + 1, none⟩) (n - 1) := by
  intro k hk
  obtain ⟨b', off', e, hb, y, hy0, hy1, cy⟩ := h (k + 1) (by omega)
  simp only [Option.some.injEq, Addr.mk.injEq, and_true] at e
  obtain ⟨rfl, rfl⟩ := e
  exact ⟨b, off + 1, rfl, hb, y, hy0, hy1, by rw [show off + 1 + k = off + (k + 1) by omega]; exact cy⟩
theorem Cur.below {w w' : World} {B : Nat} (h : Cur w B) (hb : Below w.heap.size w w') : Cur w' B := by
  have hlt := h.lt
  obtain ⟨a, n, cap, i, x, hh, hi, hn, hby⟩ := h
  exact ⟨a, n, cap, i, x, (hb.block B hlt).trans hh, hi, hn, hby.oth (Oth.of_below hb) (by omega)⟩
structure Up (B : Nat) (w0 w : World) : Prop where
  cur : Cur w B
  oth : Oth B w0 w
theorem Cur.same {w w' : World} {B : Nat} (h : Cur w B) (hs : ∀ k, k ≤ B → w'.heap[k]? = w.heap[k]?) : Cur w' B := by
  obtain ⟨a, n, cap, i, x, hh, hi, hn, hb⟩ := h
  refine ⟨a, n, cap, i, x, (hs B (Nat.le_refl _)).trans hh, hi, hn, fun k hk => ?_⟩
  obtain ⟨b, off, e, hb', y, h0, h1, hc⟩ := hb k hk
  exact ⟨b, off, e, hb', y, h0, h1, (World.cell?_of_block (a := ⟨b, off + k, none⟩) (hs b (by omega))).trans hc⟩
theorem Up.grown {B : Nat} {w0 w w' : World} {row : Option Nat} (h : Up B w0 w) (hB : B < w0.heap.size) (hg : w.grownBy w' row) (hr : ∀ g, row = some g → w0.heap.size ≤ g) : Up B w0 w' := by
  have hsz := h.oth.size
  refine ⟨h.cur.same fun k hk => hg.block k (by omega) (fun e => by have := hr k e.symm; omega), ⟨hg.os.trans h.oth.os, hg.tape.trans h.oth.tape, hg.output.trans h.oth.output, Nat.le_trans hsz hg.size, fun k hk hn => ?_⟩⟩
  exact (hg.block k (by omega) (fun e => by have := hr k e.symm; omega)).trans (h.oth.block hk (by simpa using hn))
theorem Up.alloc {B : Nat} {w0 w : World} (h : Up B w0 w) (hB : B < w0.heap.size) (o : Obj) : Up B w0 (w.alloc o) := h.grown hB (World.grownBy_alloc w o none) (by simp)
theorem Up.step {B : Nat} {w0 w w' : World} (h : Up B w0 w) (hc : Cur w' B) (ho : Oth B w w') : Up B w0 w' := ⟨hc, h.oth.trans ho⟩
theorem Up.refl {B : Nat} {w : World} (h : Cur w B) : Up B w w := ⟨h, Oth.refl _ _⟩
theorem owns_oth {w w' : World} {B base n size : Nat} {t : TypeId} {v : Value} {L : List Value} (h : w.ownsRow base t size v n L) (ho : Oth B w w') (hB : B < base) : w'.ownsRow base t size v n L :=
  h.kept ho (.inr (by
    intro e
    have h1 := h.lt B e
    omega))
def DrawnO (B : Nat) (w : World) (r : Ending) (w' : World) : Prop := ∃ b : Bool, r = .returned (.bool b) ∧ Cur w' B ∧ Oth B w w'
theorem l1Once_any (B : Nat) (n : Int) (w : World) (hc : Cur w B) (h0 : 0 < n) (h1 : n ≤ 256) :
    Calls Try.prog 64 #[.pointer (some ⟨B, 0, none⟩), .int .i64 n] w (DrawnO B w) := by
  go_enter Try.func64, Try.ntmps64
  go_wp2_with fail
  refine (l1Below_any B n w hc h0 h1).mono ?_
  rintro r w1 ⟨x, rfl, hx0, hx1, hc1, ho1⟩
  go_wp2
  go_ret
  exact ⟨_, rfl, hc1, ho1⟩
theorem Up.below {B n : Nat} {w0 w w' : World} (h : Up B w0 w) (hB : B < w0.heap.size) (hb : Below n w w') (hn : w0.heap.size ≤ n) : Up B w0 w' :=
  ⟨h.cur.same fun k hk => hb.block k (by omega), ⟨hb.os.trans h.oth.os, hb.tape.trans h.oth.tape, hb.output.trans h.oth.output, Nat.le_trans h.oth.size hb.size, fun k hk hn' => (hb.block k (by omega)).trans (h.oth.block hk (by simpa using hn'))⟩⟩
def DrawnIn (B : Nat) (l : List Int) (w : World) (r : Ending) (w' : World) : Prop := ∃ x : Int, r = .returned (.int .i64 x) ∧ x ∈ l ∧ Cur w' B ∧ Oth B w w'
theorem l1PickInt_in (B g cap : Nat) (l : List Int) (t : TypeId) (w : World) (hc : Cur w B) (hg : g ≠ B) (h : w.heap[g]? = some (.cells (l.map (Value.int .i64)).toArray t (0, 0))) (h0 : 0 < l.length) (h1 : l.length ≤ 256) :
    Calls Try.prog 65 #[.pointer (some ⟨B, 0, none⟩), .slice (some ⟨g, 0, none⟩) l.length cap] w (DrawnIn B l w) := by
  obtain ⟨n, hn⟩ : ∃ n, n = l.length := ⟨_, rfl⟩
  rw [← hn] at h0 h1 ⊢
  have HN := Lib.hid hn; clear hn
  have HH := Lib.hid h; clear h
  go_enter Try.func65, Try.ntmps65
  go_wp2_with fail
  refine (l1Below_any B n w hc (by omega) (by omega)).mono ?_
  rintro r w1 ⟨x, rfl, hx0, hx1, hc1, ho1⟩
  obtain ⟨k, rfl⟩ := Int.eq_ofNat_of_zero_le hx0
  have hgl : g < w.heap.size := box_lt HH.out
  have hb := (ho1.block hgl hg).trans HH.out
  have hkl : k < l.length := by have := HN.out; omega
  obtain ⟨x, hx, hxm⟩ : ∃ x : Int, w1.cell? ⟨g, k, none⟩ = some (.int .i64 x) ∧ x ∈ l := ⟨l[k], by simp [World.cell?, hb, hkl], List.getElem_mem hkl⟩
  clear hb
  have HXm := Lib.hid hxm; clear hxm
  go_wp2
  go_ret
  exact ⟨x, rfl, HXm.out, hc1, ho1⟩
def DrawnW (B : Nat) (w : World) (r : Ending) (w' : World) : Prop := ∃ x : Int, r = .returned (.int .i64 x) ∧ W64 x ∧ Cur w' B ∧ Oth B w w'
theorem w64_lim {u : Int} (h0 : -9223372036854775808 ≤ u) (h1 : u ≤ 9223372036854775807) : W64 u := by
  unfold W64; simp [Lit.wf, IntKind.min, IntKind.max, IntKind.signed, IntKind.bits]; omega
set_option maxRecDepth 100000 in
set_option maxHeartbeats 2000000 in
theorem l4Number_w (B : Nat) (w : World) (hc : Cur w B) : Calls Try.prog 48 #[.pointer (some ⟨B, 0, none⟩)] w (DrawnW B w) := by
  have hB := hc.lt
  go_enter Try.func48, Try.ntmps48
  go_wp2_with fail
  refine (l1Once_any B 4 w hc (by omega) (by omega)).mono ?_
  rintro r w1 ⟨b, rfl, hc1, ho1⟩
  have hz1 := ho1.size
  cases b
  · go_wp2_with fail
    refine (l1Below_any B 20 w1 hc1 (by omega) (by omega)).mono ?_
    rintro r w2 ⟨x, rfl, hx0, hx1, hc2, ho2⟩
    go_wp2
    go_ret
    exact ⟨_, rfl, w64_lim (by omega) (by omega), hc2, ho1.trans ho2⟩
  · go_wp2_with fail
    have hu := (Up.step (Up.refl hc) hc1 ho1).alloc hB
    refine (l1PickInt_in B w1.heap.size 10 [0, 1, -1, 18999, 19000, 19999, 20000, 536870911, 536870912, 9223372036854775807] _ _ (hu _).cur (by omega) (heap_alloc_new _ _) (by decide) (by decide)).mono ?_
    rintro r w2 ⟨x, rfl, hxm, hc2, ho2⟩
    have hw : W64 x := by
      simp only [List.mem_cons, List.not_mem_nil, or_false] at hxm
      rcases hxm with rfl | rfl | rfl | rfl | rfl | rfl | rfl | rfl | rfl | rfl <;> exact w64_lim (by omega) (by omega)
    clear hxm
    have HW := Lib.hid hw; clear hw
    go_wp2
    go_ret
    exact ⟨x, rfl, HW.out, hc2, (hu _).oth.trans ho2⟩
end Go.Proofs.Ytbpilecgnfnndaa

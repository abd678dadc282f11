/- Copies of shapes, one behind the other. -/
import Derived.Test.YtbgejldjgkihaaaCpy
import Derived.Test.YtbgejldjgkihaaaReg
namespace Go.Proofs.Ytbgejldjgkihaaa
set_option linter.unusedSimpArgs false
set_option linter.unusedVariables false
open Go.ChangeShapes Go.WideShapes Go.ChangeAt Go.RowKit Go.BigFrame
theorem info_Shape : (Try.prog.info? 43).map (fun i => (i.zero, i.size, i.bytes)) = some (some (.agg #[.int .i64 0, .slice none 0 0]), 2, 32) := by kernel_rfl

theorem shs_at {w : World} {a : Option Addr} {xs : List Shp} (h : ShsC w a xs) {k : Nat} {x : Shp} (hx : xs[k]? = some x) : ∃ b off a' cap', a = some ⟨b, off, none⟩ ∧ b < w.heap.size ∧ w.cell? ⟨b, off + k * 2, none⟩ = some (.int .i64 x.id) ∧ w.cell? ⟨b, off + k * 2 + 1, none⟩ = some (.slice a' x.flds.length cap') ∧ Flds w a' x.flds ∧ (a' = none → cap' = 0) := h k x hx
theorem fresh_apart {w w1 : World} {base base1 n : Nat} {T TF : TypeId} {v : Value} {rs : List ShR} {xs : List Shp} {r : ShR} {L : List Value} (h : OwnShs w base T TF v n rs xs) (hb : w.heap.size ≤ base1) (hr : w1.ownsRow base1 TF 5 (.slice r.a r.n r.cap) r.n L) :
    ∀ (i : Nat) (s : ShR), rs[i]? = some s → ∀ g, (Value.slice s.a s.n s.cap).ownBlock = some g → (Value.slice r.a r.n r.cap).ownBlock ≠ some g := by
  intro i s hs g hg hrg
  have hi : i < n := by
    rcases Nat.lt_or_ge i rs.length with h' | h'
    · rw [← h.len]; exact h'
    · rw [List.getElem?_eq_none h'] at hs; simp at hs
  obtain ⟨x, hx⟩ : ∃ x, xs[i]? = some x := ⟨_, List.getElem?_eq_getElem (by rw [h.lenx]; exact hi)⟩
  have h1 := ((h.each i s x hs hx).2.2.lt g hg).2
  have h2 := (hr.lt g hrg).1
  omega
theorem OwnShs.alloc {w : World} {base n : Nat} {T TF : TypeId} {v : Value} {rs : List ShR} {xs : List Shp} (h : OwnShs w base T TF v n rs xs) (o : Obj) : OwnShs (w.alloc o) base T TF v n rs xs := OwnShs.below h (Below.refl _ _ |>.alloc (Nat.le_refl _) o) (Nat.le_refl _)
theorem RowIs.alloc {w : World} {base : Nat} {TF : TypeId} {r : ShR} {x : Shp} (h : RowIs w base TF r x) (o : Obj) : RowIs (w.alloc o) base TF r x := ⟨h.1, h.2.1, h.2.2.alloc o⟩
theorem OwnShs.drew {w : World} {base n : Nat} {T TF : TypeId} {v : Value} {rs : List ShR} {xs : List Shp} (h : OwnShs w base T TF v n rs xs) : OwnShs w.drew base T TF v n rs xs := OwnShs.below h (Below.refl _ _).drew (Nat.le_refl _)
theorem below_grown {B : Nat} {w0 w w' : World} {row : Option Nat} (hb : Below B w0 w) (hg : w.grownBy w' row) (hr : ∀ g, row = some g → B ≤ g) (hB : B ≤ w.heap.size) : Below B w0 w' :=
  hb.trans ⟨hg.os, hg.tape, hg.output, hg.size, fun k hk => hg.block k (by omega) (fun e => by have := hr k e.symm; omega)⟩
set_option maxRecDepth 100000 in
set_option maxHeartbeats 4000000 in
theorem copySchema_any (a : Option Addr) (cap n : Nat) (xs : List Shp) (w : World) (h : ShsC w a xs) (hx : xs.length = n) (hn : n ≤ 1048576) (hm : fldSum xs ≤ 1048576) :
    Calls Try.prog 117 #[.agg #[.slice a n cap]] w (FreshSch w 43 47 n xs) := by
  have HX := Lib.hid hx; clear hx
  have HSs := Lib.hid h; clear h
  obtain ⟨i0, hi, hj0, hj1, hj2⟩ := info_parts info_Shape
  go_enter Try.func117, Try.ntmps117
  go_wp2
  obtain ⟨B0, hB0⟩ : ∃ B0, B0 = w.heap.size := ⟨_, rfl⟩
  go_loopw [10] (fun i wr => ∃ k : Nat, k ≤ n ∧ i = .int .i64 k ∧ (∃ v rs, OwnShs wr (w.heap.size + 1 + 1 + 1) 43 47 v k rs (xs.take k) ∧ wr.heap[w.heap.size + 1 + 1]? = some (.cells #[v] 30 (0, 0))) ∧ wr.heap[w.heap.size + 1]? = some (.cells #[.slice none 0 0] 30 (0, 0)) ∧ Below w.heap.size w wr) (fun i _ => n - (intOf i).toNat)
  case atStart => exact ⟨0, Nat.zero_le _, rfl, ⟨.slice none 0 0, [], OwnShs.nil _ _ _ _, hset_new (by simp)⟩, hset_alloc (hset_new (by simp)), by ((repeat (first | (with_reducible exact Below.refl _ _) | (with_reducible assumption) | (with_reducible refine Below.alloc ?_ ?_ _) | (with_reducible refine Below.setCell ?_ ?_ _) | (with_reducible refine Below.drew ?_) | (with_reducible refine below_setRow ?_ ?_ _) | (refine Below.trans ?_ (Below.mono (by assumption) ?_)))); all_goals (first | omega | (simp; done) | (simp; omega)))⟩
  case round =>
    obtain ⟨k, hk, rfl, ⟨v, rs, ho, hO⟩, hR, hb⟩ := hrel
    have hz := hb.size
    have hOl := box_lt hO
    have hRl := box_lt hR
    have hO0 := box_cells hO 0
    have hOf := box_frozen hO 0
    have hR0 := box_cells hR 0
    have hRf := box_frozen hR 0
    simp only [List.getElem?_toArray, List.getElem?_cons_zero] at hR0
    simp only [List.getElem?_toArray, List.getElem?_cons_zero] at hO0
    have HO := Lib.hid ho; clear ho
    have HOx := Lib.hid hO; clear hO
    have HRx := Lib.hid hR; clear hR
    by_cases hlt : k < n
    · obtain ⟨x, hx, _⟩ := at_lt (xs := xs) (k := k) (by rw [HX.out]; exact hlt)
      have hfl : x.flds.length ≤ 1048576 := by have := fldSum_ge hx; omega
      obtain ⟨b, off, a', cap', rfl, hbl, c0, c1, hfs, hnil⟩ := shs_at (ShsC.keep HSs.out hb) hx
      have hTK := Lib.hid (show xs.take (k + 1) = xs.take k ++ [x] by rw [List.take_add_one, hx]; rfl)
      have HF := Lib.hid hfs; clear hfs
      clear hx
      have hol := HO.out.outer.lt
      go_wp2_with fail
      refine wp_region_till (fun w' => w'.cell? ⟨w.heap.size + 1 + 1, 0, none⟩ = some v ∧ w'.cell? ⟨wr.heap.size, 0, none⟩ = some (.int .i64 x.id) ∧ w'.cell? ⟨wr.heap.size, 1, none⟩ = some (.slice a' x.flds.length cap')) (fun i => decide (11 ≤ i)) (by kernel_rfl) ?_
      have hS : (fun w' : World => w'.cell? ⟨w.heap.size + 1 + 1, 0, none⟩ = some v ∧ w'.cell? ⟨wr.heap.size, 0, none⟩ = some (.int .i64 x.id) ∧ w'.cell? ⟨wr.heap.size, 1, none⟩ = some (.slice a' x.flds.length cap')) (wr.alloc (.cells #[.int .i64 x.id, .slice a' x.flds.length cap'] 43)).drew := ⟨by go_keep, by go_keep, by go_keep⟩
      refine wpTill_take (i := 0) (v := ?v0_1) rfl (by kernel_rfl) (by kernel_rfl) (by kernel_rfl) (by kernel_rfl) (fun _ _ _ h => h) (Or.inl ⟨by rfl, ?y0_1⟩) hS ?r0_1
      case y0_1 => (intro wq hq; (try simp only [cells_cons, cells_nil, and_true] at hq); first | (go_simp; done) | (go_simp; with_reducible rfl) | (obtain ⟨hq1, hq2⟩ := hq; go_simp; with_reducible rfl))
      try simp only [List.getElem_toArray, List.getElem_cons_succ, List.getElem_cons_zero, Act.put, List.setIfInBounds_toArray, List.set_cons_zero, List.set_cons_succ]
      refine wpTill_take (i := 1) (v := ?v1_2) rfl (by kernel_rfl) (by kernel_rfl) (by kernel_rfl) (by kernel_rfl) (fun _ _ _ h => h) (Or.inl ⟨by rfl, ?y1_2⟩) hS ?r1_2
      case y1_2 => (intro wq hq; (try simp only [cells_cons, cells_nil, and_true] at hq); first | (go_simp; done) | (go_simp; with_reducible rfl) | (obtain ⟨hq1, hq2⟩ := hq; go_simp; with_reducible rfl))
      try simp only [List.getElem_toArray, List.getElem_cons_succ, List.getElem_cons_zero, Act.put, List.setIfInBounds_toArray, List.set_cons_zero, List.set_cons_succ]
      refine wpTill_take (i := 2) (v := ?v2_3) rfl (by kernel_rfl) (by kernel_rfl) (by kernel_rfl) (by kernel_rfl) (fun _ _ _ h => h) (Or.inl ⟨by rfl, ?y2_3⟩) hS ?r2_3
      case y2_3 => (intro wq hq; (try simp only [cells_cons, cells_nil, and_true] at hq); first | (go_simp; done) | (go_simp; with_reducible rfl) | (obtain ⟨hq1, hq2⟩ := hq; go_simp; with_reducible rfl))
      try simp only [List.getElem_toArray, List.getElem_cons_succ, List.getElem_cons_zero, Act.put, List.setIfInBounds_toArray, List.set_cons_zero, List.set_cons_succ]
      refine wpTill_take (i := 3) (v := ?v3_4) rfl (by kernel_rfl) (by kernel_rfl) (by kernel_rfl) (by kernel_rfl) (fun _ _ _ h => h) (Or.inl ⟨by rfl, ?y3_4⟩) hS ?r3_4
      case y3_4 => (intro wq hq; (try simp only [cells_cons, cells_nil, and_true] at hq); first | (go_simp; done) | (go_simp; with_reducible rfl) | (obtain ⟨hq1, hq2⟩ := hq; go_simp; with_reducible rfl))
      try simp only [List.getElem_toArray, List.getElem_cons_succ, List.getElem_cons_zero, Act.put, List.setIfInBounds_toArray, List.set_cons_zero, List.set_cons_succ]
      refine wpTill_take (i := 4) (v := ?v4_5) rfl (by kernel_rfl) (by kernel_rfl) (by kernel_rfl) (by kernel_rfl) (fun _ _ _ h => h) (Or.inl ⟨by rfl, ?y4_5⟩) hS ?r4_5
      case y4_5 => (intro wq hq; (try simp only [cells_cons, cells_nil, and_true] at hq); first | (go_simp; done) | (go_simp; with_reducible rfl) | (obtain ⟨hq1, hq2⟩ := hq; go_simp; with_reducible rfl))
      try simp only [List.getElem_toArray, List.getElem_cons_succ, List.getElem_cons_zero, Act.put, List.setIfInBounds_toArray, List.set_cons_zero, List.set_cons_succ]
      refine wpTill_take (i := 5) (v := ?v5_6) rfl (by kernel_rfl) (by kernel_rfl) (by kernel_rfl) (by kernel_rfl) (fun _ _ _ h => h) (Or.inl ⟨by rfl, ?y5_6⟩) hS ?r5_6
      case y5_6 => (intro wq hq; (try simp only [cells_cons, cells_nil, and_true] at hq); first | (go_simp; done) | (go_simp; with_reducible rfl) | (obtain ⟨hq1, hq2⟩ := hq; go_simp; with_reducible rfl))
      try simp only [List.getElem_toArray, List.getElem_cons_succ, List.getElem_cons_zero, Act.put, List.setIfInBounds_toArray, List.set_cons_zero, List.set_cons_succ]
      refine wpTill_op (i := 6) (by kernel_rfl) rfl (fun K hK => ?_)
      go_simp
      refine (cloneFld_any a' cap' x.flds.length x.flds _ (Sl.keep HF.out (by ((repeat (first | (with_reducible exact Below.refl _ _) | (with_reducible assumption) | (with_reducible refine Below.alloc ?_ ?_ _) | (with_reducible refine Below.setCell ?_ ?_ _) | (with_reducible refine Below.drew ?_) | (with_reducible refine below_setRow ?_ ?_ _) | (refine Below.trans ?_ (Below.mono (by assumption) ?_)))); all_goals (first | omega | (simp; done) | (simp; omega))))) rfl (by omega) hnil).mono ?_
      rintro r w1 ⟨a1, cap1, rfl, ho1, hb1⟩
      have hz1 := hb1.size
      simp only [World.size_alloc, World.size_drew] at hz1
      have hS1 : w1.cell? ⟨w.heap.size + 1 + 1, 0, none⟩ = some v ∧ w1.cell? ⟨wr.heap.size, 0, none⟩ = some (.int .i64 x.id) ∧ w1.cell? ⟨wr.heap.size, 1, none⟩ = some (.slice a' x.flds.length cap') :=
        ⟨(hb1.cell (p := ⟨_, _, none⟩) (by simp; omega)).trans hS.1, (hb1.cell (p := ⟨_, _, none⟩) (by simp)).trans hS.2.1, (hb1.cell (p := ⟨_, _, none⟩) (by simp)).trans hS.2.2⟩
      refine hK.out _ _ (fun _ => hS1) ?_
      clear hK K hS
      have hS := hS1; clear hS1
      have hbw1 : Below wr.heap.size wr w1 := by ((repeat (first | (with_reducible exact Below.refl _ _) | (with_reducible assumption) | (with_reducible refine Below.alloc ?_ ?_ _) | (with_reducible refine Below.setCell ?_ ?_ _) | (with_reducible refine Below.drew ?_) | (with_reducible refine below_setRow ?_ ?_ _) | (refine Below.trans ?_ (Below.mono (by assumption) ?_)))); all_goals (first | omega | (simp; done) | (simp; omega)))
      have hRow : RowIs w1 (w.heap.size + 1 + 1 + 1) 47 ⟨x.id, a1, x.flds.length, cap1⟩ x := ⟨rfl, rfl, owns_le ho1 (by simp; omega)⟩
      have hap := fresh_apart (r := ⟨x.id, a1, x.flds.length, cap1⟩) HO.out (by simp) ho1
      have HO1 := Lib.hid (OwnShs.below HO.out hbw1 (Nat.le_refl _)); clear HO
      have HRow := Lib.hid hRow; clear hRow ho1
      have HAP := Lib.hid hap; clear hap
      try simp only [Act.put, List.setIfInBounds_toArray, List.set_cons_zero, List.set_cons_succ]
      refine wpTill_take (i := 7) (v := ?v7_7) rfl (by kernel_rfl) (by kernel_rfl) (by kernel_rfl) (by kernel_rfl) (fun _ _ _ h => h) (Or.inl ⟨by rfl, ?y7_7⟩) hS ?r7_7
      case y7_7 => (intro wq hq; (try simp only [cells_cons, cells_nil, and_true] at hq); first | (go_simp; done) | (go_simp; with_reducible rfl) | (obtain ⟨hq1, hq2⟩ := hq; go_simp; with_reducible rfl))
      try simp only [List.getElem_toArray, List.getElem_cons_succ, List.getElem_cons_zero, Act.put, List.setIfInBounds_toArray, List.set_cons_zero, List.set_cons_succ]
      refine wpTill_op (i := 8) (by kernel_rfl) rfl (fun K hK => ?_)
      go_simp
      have hS2 : (w1.alloc (.cells #[.int .i64 x.id, .slice a1 x.flds.length cap1] 43)).cell? ⟨w.heap.size + 1 + 1, 0, none⟩ = some v ∧ (w1.alloc (.cells #[.int .i64 x.id, .slice a1 x.flds.length cap1] 43)).cell? ⟨wr.heap.size, 0, none⟩ = some (.int .i64 x.id) ∧ (w1.alloc (.cells #[.int .i64 x.id, .slice a1 x.flds.length cap1] 43)).cell? ⟨wr.heap.size, 1, none⟩ = some (.slice a' x.flds.length cap') :=
        ⟨cell_alloc _ hS.1, cell_alloc _ hS.2.1, cell_alloc _ hS.2.2⟩
      refine hK.out _ _ (fun _ => hS2) ?_
      clear hK K hS
      have hS := hS2; clear hS2
      try simp only [Act.put, List.setIfInBounds_toArray, List.set_cons_zero, List.set_cons_succ]
      have HA1 := Lib.hid (HO1.out.alloc (.cells #[.int .i64 x.id, .slice a1 x.flds.length cap1] 43)); clear HO1
      have HRA := Lib.hid (HRow.out.alloc (.cells #[.int .i64 x.id, .slice a1 x.flds.length cap1] 43)); clear HRow
      have HNW := Lib.hid (World.news_of_block (cs := #[.int .i64 x.id, .slice a1 x.flds.length cap1]) (t := 43) (fr := (0, 0)) (heap_alloc_new w1 _))
      refine wpTill_op (i := 9) (by kernel_rfl) rfl (fun K hK => ?_)
      refine step_append_own rfl _ _ 28 rfl (w.heap.size + 1 + 1 + 1) 43 i0 _ 2 32 Try.underlying28 hi hj0 hj1 hj2 rfl (by decide) v k (rs.flatMap ShR.cs) rfl HA1.out.outer ⟨w1.heap.size, 0, none⟩ 1 1 [.int .i64 x.id, .slice a1 x.flds.length cap1] rfl rfl HNW.out (by simp [Value.oneCell']) (by unfold maxLen; omega) (by omega) (by simp; omega) ?_
      intro v2 w2 hown2 hgr2 _
      have hS2 : w2.cell? ⟨w.heap.size + 1 + 1, 0, none⟩ = some v ∧ w2.cell? ⟨wr.heap.size, 0, none⟩ = some (.int .i64 x.id) ∧ w2.cell? ⟨wr.heap.size, 1, none⟩ = some (.slice a' x.flds.length cap') :=
        ⟨cell_grown hgr2 hS.1 (fun e => by have := hol _ e; simp only at this; omega), cell_grown hgr2 hS.2.1 (fun e => by have := hol _ e; simp only at this; omega), cell_grown hgr2 hS.2.2 (fun e => by have := hol _ e; simp only at this; omega)⟩
      refine hK.out _ _ (fun _ => hS2) ?_
      clear hK K hS
      have hS := hS2; clear hS2
      try simp only [Act.put, List.setIfInBounds_toArray, List.set_cons_zero, List.set_cons_succ]
      obtain ⟨a3, cap3, rfl, _⟩ := own_sh hown2
      have hsz2 := hgr2.size
      simp only [World.size_alloc] at hsz2
      have HP := Lib.hid (HA1.out.push (w' := w2) (by decide) HRA.out HAP.out hown2 hgr2)
      have hb2 : Below (w.heap.size + 1 + 1 + 1) wr w2 := below_grown (show Below (w.heap.size + 1 + 1 + 1) wr _ from (hbw1.mono (by omega)).alloc (by omega) _) hgr2 (fun g e => (hol g e).1) (by simp; omega)
      have hz2 := hb2.size
      have hO2 : w2.heap[w.heap.size + 1 + 1]? = some (.cells #[v] 30 (0, 0)) := (hb2.block _ (by omega)).trans HOx.out
      have hR2 : w2.heap[w.heap.size + 1]? = some (.cells #[.slice none 0 0] 30 (0, 0)) := (hb2.block _ (by omega)).trans HRx.out
      have hOf2 := box_frozen hO2 0
      have HO2 := Lib.hid hO2; clear hO2
      have HR2 := Lib.hid hR2; clear hR2
      clear hgr2 hown2
      refine wpTill_take (i := 10) (v := ?v10_8) rfl (by kernel_rfl) (by kernel_rfl) (by kernel_rfl) (by kernel_rfl) (fun _ _ _ h => h) (Or.inl ⟨by rfl, ?y10_8⟩) hS ?r10_8
      case y10_8 => (intro wq hq; (try simp only [cells_cons, cells_nil, and_true] at hq); first | (go_simp; done) | (go_simp; with_reducible rfl) | (obtain ⟨hq1, hq2⟩ := hq; go_simp; with_reducible rfl))
      try simp only [List.getElem_toArray, List.getElem_cons_succ, List.getElem_cons_zero, Act.put, List.setIfInBounds_toArray, List.set_cons_zero, List.set_cons_succ]
      refine wpTill_op (i := 11) (by kernel_rfl) rfl (fun K hK => ?_)
      go_simp
      refine hK.out _ _ (fun e => by cases e) ?_
      clear hK K
      refine wpTill_done (by kernel_rfl) ?_ _
      go_wp2
      go_roundw
      case rel =>
        refine ⟨k + 1, by omega, by go_num, ⟨.slice a3 (k + 1) cap3, rs ++ [⟨x.id, a1, x.flds.length, cap1⟩], ?_, ?_⟩, ?_, ?_⟩
        · rw [hTK.out]; exact HP.out.set (by simp) _
        · exact hset_same HO2.out rfl
        · exact hset_other HR2.out (by simp)
        · exact ((hb.trans (hb2.mono (by omega)))).setCell (by simp; omega) _
      case measure => simp [intOf]; omega
    · obtain rfl : k = n := by omega
      obtain ⟨a2, cap2, rfl, ho2⟩ := own_sh HO.out.outer
      have HF2 := Lib.hid (show OwnShs wr (w.heap.size + 1 + 1 + 1) 43 47 (.slice a2 k cap2) k rs xs by have := HO.out; rw [List.take_of_length_le (by rw [HX.out]; omega)] at this; exact this)
      clear HO ho2
      go_wp2
      refine bodyPost_ret (v := .agg #[.slice a2 k cap2]) (by have hRs := World.cell?_setCell_same wr ⟨w.heap.size + 1, 0, none⟩ (.slice a2 k cap2) hR0; simp [results, Try.results117, go_sem, hRs]) rfl ⟨a2, cap2, rs, rfl, OwnShs.le (HF2.out.set (by simp) _) (by omega), by ((repeat (first | (with_reducible exact Below.refl _ _) | (with_reducible assumption) | (with_reducible refine Below.alloc ?_ ?_ _) | (with_reducible refine Below.setCell ?_ ?_ _) | (with_reducible refine Below.drew ?_) | (with_reducible refine below_setRow ?_ ?_ _) | (refine Below.trans ?_ (Below.mono (by assumption) ?_)))); all_goals (first | omega | (simp; done) | (simp; omega)))⟩
end Go.Proofs.Ytbgejldjgkihaaa

/- Texts that FnCompiled leans on, part 7. (Put together by wip/tools/bundle.py.) -/
import Derived.Test.YtbpilecgnfnndaaCmpd1
import Derived.Test.YtbpilecgnfnndaaCmpd2
import Derived.Test.YtbpilecgnfnndaaCmpd3
import Derived.Test.YtbpilecgnfnndaaCmpd4
import Derived.Test.YtbpilecgnfnndaaCmpd5
import Derived.Test.YtbpilecgnfnndaaCmpd6
namespace Go.Proofs.Ytbpilecgnfnndaa
set_option linter.unusedSimpArgs false
set_option linter.unusedVariables false
open Go.ChangeShapes Go.WideShapes Go.ChangeAt Go.RowKit Go.BigFrame Go.Sort
set_option maxRecDepth 100000 in
set_option maxHeartbeats 4000000 in
theorem implCompile_ok (a : Option Addr) (cap n : Nat) (xs : List Shp) (w : World) (h : ShsL w a xs) (hx : xs.length = n) (hcap : n ≤ cap) (hm : fldSum xs ≤ 1048576) (hv : firstV xs = (0, 0, 0)) :
    Calls Try.prog 8 #[.agg #[.slice a n cap]] w fun r w' => ∃ a' cap' rs, r = .returned (.tuple #[.agg #[.slice a' n cap'], .agg #[.int .i64 0, .int .i64 0, .int .i64 0]]) ∧ OwnShs w' w.heap.size 43 47 (.slice a' n cap') n rs (compS xs) ∧ Below w.heap.size w w' := by
  have hval := Lib.hid (val_of (xs := xs) (by rw [hv]))
  have hn6 : n ≤ 6 := by have := hval.out.n; omega
  have HX := Lib.hid hx; clear hx
  have HSs := Lib.hid h; clear h
  obtain ⟨i0, hi, hi0, hi1, hi2⟩ := info_parts info_Int
  obtain ⟨j0, hj, hj0, hj1, hj2⟩ := info_parts info_Fld5
  obtain ⟨s0, hs, hs0, hs1, hs2⟩ := info_parts info_Shape
  go_enter Try.func8, Try.ntmps8
  go_wp2_with fail
  refine (implFirst_any a cap n xs _ (HSs.out.keep (by ((repeat (first | (with_reducible exact Below.refl _ _) | (with_reducible assumption) | (with_reducible refine Below.alloc ?_ ?_ _) | (with_reducible refine Below.setCell ?_ ?_ _) | (with_reducible refine Below.drew ?_) | (with_reducible refine below_setRow ?_ ?_ _) | (refine Below.trans ?_ (Below.mono (by assumption) ?_)))); all_goals (first | omega | (simp; done) | (simp; omega))))) HX.out (by omega) hcap hm).mono ?_
  rintro r w1 ⟨rfl, hb1⟩
  rw [hv]
  clear hv
  simp only [vioV]
  have hA_ : w1.heap[w.heap.size]? = some (.cells #[.slice a n cap] 26 (0, 0)) := (hb1.block _ (by simp; omega)).trans (hset_alloc (hset_alloc (hset_new rfl)))
  have hS_ : w1.heap[w.heap.size + 1]? = some (.cells #[.slice none 0 0] 30 (0, 0)) := (hb1.block _ (by simp)).trans (hset_alloc (hset_new (by simp)))
  have hV_ : w1.heap[w.heap.size + 1 + 1]? = some (.cells #[.int .i64 0, .int .i64 0, .int .i64 0] 32 (0, 0)) := (hb1.block _ (by simp)).trans (hset_new (by simp))
  have hbw : Below w.heap.size w w1 := by ((repeat (first | (with_reducible exact Below.refl _ _) | (with_reducible assumption) | (with_reducible refine Below.alloc ?_ ?_ _) | (with_reducible refine Below.setCell ?_ ?_ _) | (with_reducible refine Below.drew ?_) | (with_reducible refine below_setRow ?_ ?_ _) | (refine Below.trans ?_ (Below.mono (by assumption) ?_)))); all_goals (first | omega | (simp; done) | (simp; omega)))
  have hz1 := hb1.size
  simp only [World.size_alloc, World.size_setCell] at hz1
  clear hb1
  have hAl := box_lt hA_; have hSl := box_lt hS_; have hVl := box_lt hV_
  have hAl1 : w.heap.size < w1.heap.size + 1 := by omega
  have hAl2 : w.heap.size < w1.heap.size + 1 + 1 := by omega
  have kA := box_cells hA_ 0
  simp only [List.getElem?_toArray, List.getElem?_cons_zero] at kA
  go_wp2
  have HB := Lib.hid (own_built (w1.alloc (.cells #[.int .i64 0, .int .i64 0, .int .i64 0] 32)) 3 1)
  simp only [World.size_alloc] at HB
  go_loopw [6, 28] (fun v i wr => ∃ k g c : Nat, k ≤ n ∧ i = .int .i64 k ∧ v = .slice (some ⟨g, 0, none⟩) k c ∧ w1.heap.size + 1 ≤ g ∧ Hid (wr.ownsRow (w1.heap.size + 1) 3 1 (.slice (some ⟨g, 0, none⟩) k c) k (((xs.take k).map Shp.id).map (Value.int .i64))) ∧ wr.heap[w.heap.size]? = some (.cells #[.slice a n cap] 26 (0, 0)) ∧ wr.heap[w.heap.size + 1]? = some (.cells #[.slice none 0 0] 30 (0, 0)) ∧ wr.heap[w.heap.size + 1 + 1]? = some (.cells #[.int .i64 0, .int .i64 0, .int .i64 0] 32 (0, 0)) ∧ wr.heap[w1.heap.size + 1 + 1]? = some (.cells #[.slice none 0 0] 30 (0, 0)) ∧ Below w.heap.size w wr) (fun _ i _ => n - (intOf i).toNat)
  case atStart =>
    refine ⟨0, w1.heap.size + 1, 0, Nat.zero_le _, rfl, rfl, Nat.le_refl _, ?_, ?_, ?_, ?_, ?_, by ((repeat (first | (with_reducible exact Below.refl _ _) | (with_reducible assumption) | (with_reducible refine Below.alloc ?_ ?_ _) | (with_reducible refine Below.setCell ?_ ?_ _) | (with_reducible refine Below.drew ?_) | (with_reducible refine below_setRow ?_ ?_ _) | (refine Below.trans ?_ (Below.mono (by assumption) ?_)))); all_goals (first | omega | (simp; done) | (simp; omega)))⟩
    · exact Lib.hid (World.ownsRow.alloc HB.out _)
    · (apply hset_eq; (repeat (first | (with_reducible exact hA_) | (with_reducible apply hset_row) | (with_reducible apply hset_set) | (with_reducible exact heap_alloc_new _ _) | (with_reducible exact heap_snd _ _ _) | (with_reducible apply hset_alloc) | (with_reducible apply hset_drew) | (with_reducible apply hset_other; case hk => first | omega | (simp; omega)) | (with_reducible apply hset_row_other; case hk => first | omega | (simp; omega)))); all_goals rfl)
    · (apply hset_eq; (repeat (first | (with_reducible exact hS_) | (with_reducible apply hset_row) | (with_reducible apply hset_set) | (with_reducible exact heap_alloc_new _ _) | (with_reducible exact heap_snd _ _ _) | (with_reducible apply hset_alloc) | (with_reducible apply hset_drew) | (with_reducible apply hset_other; case hk => first | omega | (simp; omega)) | (with_reducible apply hset_row_other; case hk => first | omega | (simp; omega)))); all_goals rfl)
    · (apply hset_eq; (repeat (first | (with_reducible exact hV_) | (with_reducible apply hset_row) | (with_reducible apply hset_set) | (with_reducible exact heap_alloc_new _ _) | (with_reducible exact heap_snd _ _ _) | (with_reducible apply hset_alloc) | (with_reducible apply hset_drew) | (with_reducible apply hset_other; case hk => first | omega | (simp; omega)) | (with_reducible apply hset_row_other; case hk => first | omega | (simp; omega)))); all_goals rfl)
    · exact hset_new (by simp)
  case round =>
    clear hA_ hS_ hV_ hbw kA HB
    obtain ⟨k, g, c, hk, rfl, rfl, hgb, HI, hA, hS, hV, hO, hb⟩ := hrel
    have hz := hb.size
    have hOl := box_lt hO
    have kA := box_cells hA 0; have hAr := box_lt hA
    have hAr1 : w.heap.size < wr.heap.size + 1 := by omega
    have hAr2 : w.heap.size < wr.heap.size + 1 + 1 := by omega
    simp only [List.getElem?_toArray, List.getElem?_cons_zero] at kA
    have hgl : g < wr.heap.size := by obtain ⟨cur, hc⟩ := own_box HI.out rfl; exact box_lt hc
    have hgo : g ≠ w1.heap.size + 1 + 1 := fun e => by
      obtain ⟨cur, hc⟩ := own_box HI.out rfl
      rw [e, hO] at hc
      simp at hc
    have HAx := Lib.hid hA; have HSx := Lib.hid hS; have HVx := Lib.hid hV; have HOx := Lib.hid hO; clear hA hS hV hO
    by_cases hlt : k < n
    · obtain ⟨x, hx, _⟩ := at_lt (xs := xs) (k := k) (by rw [HX.out]; exact hlt)
      obtain ⟨b, off, a', cap', rfl, hbl, c0, c1, -, -⟩ := (HSs.out.keep hb) k x hx
      have HE := Lib.hid hx; clear hx
      have hkn : (k : Int) < (n : Int) := by omega
      go_wp2_with (first | (at_builtin; refine wpList_append_own _ rfl _ _ 67 rfl (w1.heap.size + 1) 3 i0 (.int .i64 0) 1 8 Try.underlying67 hi hi0 hi1 hi2 rfl (by decide) (.slice (some ⟨g, 0, none⟩) k c) k (((xs.take k).map Shp.id).map (Value.int .i64)) rfl (owns_below HI.out (show Below wr.heap.size wr _ from by ((repeat (first | (with_reducible exact Below.refl _ _) | (with_reducible assumption) | (with_reducible refine Below.alloc ?_ ?_ _) | (with_reducible refine Below.setCell ?_ ?_ _) | (with_reducible refine Below.drew ?_) | (with_reducible refine below_setRow ?_ ?_ _) | (refine Below.trans ?_ (Below.mono (by assumption) ?_)))); all_goals (first | omega | (simp; done) | (simp; omega)))) (Nat.le_refl _)) ⟨wr.heap.size + 1, 0, none⟩ 1 1 [.int .i64 x.id] rfl rfl (World.news_of_block (cs := #[.int .i64 x.id]) (t := 3) (fr := (0, 0)) (hset_new (by simp))) (by simp [Value.oneCell']) (by unfold maxLen; omega) (by omega) (by simp; omega) ?_; intro v2 w2 hown2 hgr2 _; obtain ⟨g2, c2, rfl, hg2⟩ := own_some hown2 (by omega); have hsz2 := hgr2.size; simp only [World.size_alloc] at hsz2; have hbx : Below w.heap.size w w2 := below_grown (show Below w.heap.size w _ from by ((repeat (first | (with_reducible exact Below.refl _ _) | (with_reducible assumption) | (with_reducible refine Below.alloc ?_ ?_ _) | (with_reducible refine Below.setCell ?_ ?_ _) | (with_reducible refine Below.drew ?_) | (with_reducible refine below_setRow ?_ ?_ _) | (refine Below.trans ?_ (Below.mono (by assumption) ?_)))); all_goals (first | omega | (simp; done) | (simp; omega)))) hgr2 (fun q e => by have : g = q := Option.some.inj e; omega) (by simp; omega); have hkeep : ∀ (q : Nat) (o : Obj), q < wr.heap.size → q ≠ g → wr.heap[q]? = some o → w2.heap[q]? = some o := fun q o h1 h2 h3 => (hgr2.block q (by simp; omega) (fun e => h2 (Option.some.inj e))).trans (hset_alloc (hset_alloc h3)); have HK2 := Lib.hid hkeep; have HW2 := Lib.hid hown2; clear hown2 hgr2 hkeep))
      go_roundw
      case rel => exact ⟨k + 1, g2, c2, by omega, by go_num, rfl, hg2, Lib.hid (by rw [ids_snoc HE.out]; exact HW2.out), HK2.out _ _ (by omega) (by omega) HAx.out, HK2.out _ _ (by omega) (by omega) HSx.out, HK2.out _ _ (by omega) (by omega) HVx.out, HK2.out _ _ (by omega) (by omega) HOx.out, hbx⟩
      case measure => simp [intOf]; omega
    · obtain rfl : k = n := by omega
      have HIs := Lib.hid (show wr.ownsRow (w1.heap.size + 1) 3 1 (.slice (some ⟨g, 0, none⟩) k c) k ((xs.map Shp.id).map (Value.int .i64)) by have := HI.out; rw [List.take_of_length_le (by rw [HX.out]; omega)] at this; exact this)
      clear HI
      go_wp2_with fail
      refine (sortInts_own (w1.heap.size + 1) g c k (xs.map Shp.id) wr HIs.out (by rw [List.length_map, HX.out]) (by omega)).mono ?_
      rintro r wS ⟨rfl, hoS, hgS⟩
      have hzS := hgS.size
      have hbS : Below w.heap.size w wS := below_grown hb hgS (fun q e => by have : g = q := Option.some.inj e; omega) (by omega)
      have hAS := (hgS.block w.heap.size hAr (fun e => by have := Option.some.inj e; omega)).trans HAx.out
      have hSS := (hgS.block (w.heap.size + 1) (by omega) (fun e => by have := Option.some.inj e; omega)).trans HSx.out
      have hVS := (hgS.block (w.heap.size + 1 + 1) (by omega) (fun e => by have := Option.some.inj e; omega)).trans HVx.out
      have hOS := (hgS.block (w1.heap.size + 1 + 1) (by omega) (fun e => hgo (Option.some.inj e).symm)).trans HOx.out
      have HIS := Lib.hid hoS; clear hoS hgS HIs HAx HSx HVx HOx kA
      obtain ⟨cI, hcI⟩ := own_box HIS.out rfl
      have hgl' := box_lt hcI
      have HCI := Lib.hid hcI; clear hcI
      have hcell : ∀ (q : Nat) (z : Int), (sortI (xs.map Shp.id))[q]? = some z → cI[q]? = some (.int .i64 z) := fun q z hz => by
        have := own_at HIS.out (j := q) (u := .int .i64 z) (by rw [List.getElem?_map, hz]; rfl)
        rw [World.cell?, HCI.out] at this
        exact this
      have HCE := Lib.hid hcell; clear hcell
      have HSL := Lib.hid (show (sortI (xs.map Shp.id)).length = k by rw [sortI_len, List.length_map, HX.out])
      have HYL := Lib.hid (show (compS xs).length = k by rw [compS_len, HX.out])
      have hAl3 := box_lt hAS
      have hOlS := box_lt hOS; have hAlS := box_lt hAS; have hSlS := box_lt hSS; have hVlS := box_lt hVS
      have kO := box_cells hOS 0
      clear hb hz hAr hAr1 hAr2 hgl hOl hlt
      go_wp2
      go_loopw [42] (fun i wr => ∃ q : Nat, q ≤ k ∧ i = .int .i64 q ∧ (∃ v rs, OwnShs wr wS.heap.size 43 47 v q rs ((compS xs).take q) ∧ wr.heap[w1.heap.size + 1 + 1]? = some (.cells #[v] 30 (0, 0))) ∧ wr.heap[g]? = some (.cells cI 3 (0, 0)) ∧ wr.heap[w.heap.size]? = some (.cells #[.slice a k cap] 26 (0, 0)) ∧ wr.heap[w.heap.size + 1]? = some (.cells #[.slice none 0 0] 30 (0, 0)) ∧ wr.heap[w.heap.size + 1 + 1]? = some (.cells #[.int .i64 0, .int .i64 0, .int .i64 0] 32 (0, 0)) ∧ Below w.heap.size w wr ∧ wS.heap.size ≤ wr.heap.size) (fun i _ => k - (intOf i).toNat)
      case atStart => exact ⟨0, Nat.zero_le _, rfl, ⟨.slice none 0 0, [], OwnShs.nil _ _ _ _, hOS⟩, HCI.out, hAS, hSS, hVS, hbS, Nat.le_refl _⟩
      case round =>
        clear hAS hSS hVS hOS hbS hAl3 kO
        obtain ⟨q, hq, rfl, ⟨v, rs, ho, hO⟩, hI, hA, hS, hV, hb, hzS2⟩ := hrel
        obtain ⟨wo, hwo⟩ : ∃ wo : World, wo = wr := ⟨_, rfl⟩
        subst hwo
        have hz := hb.size
        have HO := Lib.hid ho; clear ho
        have hOl := box_lt hO; have hIl := box_lt hI; have hAl4 := box_lt hA
        have kO := box_cells hO 0; have fO := box_frozen hO 0; have kA := box_cells hA 0
        simp only [List.getElem?_toArray, List.getElem?_cons_zero] at kO kA
        have HOx := Lib.hid hO; have HIx := Lib.hid hI; have HAx := Lib.hid hA; have HSx := Lib.hid hS; have HVx := Lib.hid hV
        by_cases hlt : q < k
        · obtain ⟨z, hz', _⟩ := at_lt (xs := sortI (xs.map Shp.id)) (k := q) (by rw [HSL.out]; exact hlt)
          have kI := box_cells hI q
          rw [HCE.out q z hz'] at kI
          obtain ⟨x, hxm, hxid, hys⟩ := compS_at hval.out hz'
          obtain ⟨j, hxj, hsh⟩ := hval.out.shAt_val hxm
          have HXM := Lib.hid hxm; have HYS := Lib.hid hys; have HXJ := Lib.hid hxj
          have HSH := Lib.hid (show shAt z 0 xs = (j : Int) by rw [← hxid]; exact hsh)
          have hjn : j < k := by
            rcases Nat.lt_or_ge j k with h1 | h1
            · exact h1
            · rw [List.getElem?_eq_none (by rw [HX.out]; omega)] at hxj; simp at hxj
          clear hI hA hS hV hO hz' hxm hys hxj hsh
          obtain ⟨b, off, a', cap', rfl, hbl, c0, c1, hfsw, -⟩ := (HSs.out.keep hb) j x HXJ.out
          have hjk : (j : Int) < (k : Int) := by omega
          have hjz : (0 : Int) ≤ (j : Int) := by omega
          go_wp2
          refine wp_region_till (Cells [(⟨w.heap.size, 0, none⟩, .slice (some ⟨b, off, none⟩) k cap), (⟨b, off + j * 2, none⟩, .int .i64 x.id), (⟨b, off + j * 2 + 1, none⟩, .slice a' x.flds.length cap')]) (fun i => decide (9 ≤ i)) (by kernel_rfl) ?_
          have hWd : Below wo.heap.size wo ((wo.alloc (.cells #[.int .i64 z] 3)).drew) := by ((repeat (first | (with_reducible exact Below.refl _ _) | (with_reducible assumption) | (with_reducible refine Below.alloc ?_ ?_ _) | (with_reducible refine Below.setCell ?_ ?_ _) | (with_reducible refine Below.drew ?_) | (with_reducible refine below_setRow ?_ ?_ _) | (refine Below.trans ?_ (Below.mono (by assumption) ?_)))); all_goals (first | omega | (simp; done) | (simp; omega)))
          have hS : Cells [(⟨w.heap.size, 0, none⟩, .slice (some ⟨b, off, none⟩) k cap), (⟨b, off + j * 2, none⟩, .int .i64 x.id), (⟨b, off + j * 2 + 1, none⟩, .slice a' x.flds.length cap')] ((wo.alloc (.cells #[.int .i64 z] 3)).drew) := Cells.below (cells_mk kA (cells_mk c0 (cells_mk c1 (cells_no _)))) hWd
          have HZ := Lib.hid (show ((wo.alloc (.cells #[.int .i64 z] 3)).drew).heap[wo.heap.size]? = some (.cells #[.int .i64 z] 3 (0, 0)) from hset_drew (hset_new rfl))
          have HSd := Lib.hid (HSs.out.shs.keep (hb.trans (hWd.mono hb.size)))
          obtain ⟨wd, hwd⟩ : ∃ q, ((wo.alloc (.cells #[.int .i64 z] 3)).drew) = q := ⟨_, rfl⟩
          have hzd : wd.heap.size = wo.heap.size + 1 := by rw [← hwd]; simp
          rw [hwd] at hS HZ HSd hWd ⊢
          clear hwd kI kO kA
          refine wpTill_take (i := 0) (v := ?v0_99) rfl (by kernel_rfl) (by kernel_rfl) (by kernel_rfl) (by kernel_rfl) (fun _ _ _ h => h) (Or.inl ⟨by rfl, ?y0_99⟩) hS ?r0_99
          case y0_99 => (intro wq hq; (try simp only [cells_cons, cells_nil, and_true] at hq); first | (go_simp; done) | (go_simp; with_reducible rfl) | (obtain ⟨hq1, hq2⟩ := hq; go_simp; with_reducible rfl))
          try simp only [List.getElem_toArray, List.getElem_cons_succ, List.getElem_cons_zero, Act.put, List.setIfInBounds_toArray, List.set_cons_zero, List.set_cons_succ]
          refine wpTill_take (i := 1) (v := ?v1_100) rfl (by kernel_rfl) (by kernel_rfl) (by kernel_rfl) (by kernel_rfl) (fun _ _ _ h => h) (Or.inl ⟨by rfl, ?y1_100⟩) hS ?r1_100
          case y1_100 => (intro wq hq; (try simp only [cells_cons, cells_nil, and_true] at hq); first | (go_simp; done) | (go_simp; with_reducible rfl) | (obtain ⟨hq1, hq2⟩ := hq; go_simp; with_reducible rfl))
          try simp only [List.getElem_toArray, List.getElem_cons_succ, List.getElem_cons_zero, Act.put, List.setIfInBounds_toArray, List.set_cons_zero, List.set_cons_succ]
          refine wpTill_take (i := 2) (v := ?v2_101) rfl (by kernel_rfl) (by kernel_rfl) (by kernel_rfl) (by kernel_rfl) (fun _ _ _ h => h) (Or.inl ⟨by rfl, ?y2_101⟩) hS ?r2_101
          case y2_101 => (intro wq hq; (try simp only [cells_cons, cells_nil, and_true] at hq); first | (go_simp; done) | (go_simp; with_reducible rfl) | (obtain ⟨hq1, hq2⟩ := hq; go_simp; with_reducible rfl))
          try simp only [List.getElem_toArray, List.getElem_cons_succ, List.getElem_cons_zero, Act.put, List.setIfInBounds_toArray, List.set_cons_zero, List.set_cons_succ]
          refine wpTill_take (i := 3) (v := ?v3_102) rfl (by kernel_rfl) (by kernel_rfl) (by kernel_rfl) (by kernel_rfl) (fun _ _ _ h => h) (Or.inl ⟨by rfl, ?y3_102⟩) hS ?r3_102
          case y3_102 => (intro wq hq; (try simp only [cells_cons, cells_nil, and_true] at hq); first | (go_simp; done) | (go_simp; with_reducible rfl) | (obtain ⟨hq1, hq2⟩ := hq; go_simp; with_reducible rfl))
          try simp only [List.getElem_toArray, List.getElem_cons_succ, List.getElem_cons_zero, Act.put, List.setIfInBounds_toArray, List.set_cons_zero, List.set_cons_succ]
          refine wpTill_take (i := 4) (v := ?v4_103) rfl (by kernel_rfl) (by kernel_rfl) (by kernel_rfl) (by kernel_rfl) (fun _ _ _ h => h) (Or.inl ⟨by rfl, ?y4_103⟩) hS ?r4_103
          case y4_103 => (intro wq hq; (try simp only [cells_cons, cells_nil, and_true] at hq); first | (go_simp; done) | (go_simp; with_reducible rfl) | (obtain ⟨hq1, hq2⟩ := hq; go_simp; with_reducible rfl))
          try simp only [List.getElem_toArray, List.getElem_cons_succ, List.getElem_cons_zero, Act.put, List.setIfInBounds_toArray, List.set_cons_zero, List.set_cons_succ]
          refine wpTill_two (i := 5) (j := 8) (by kernel_rfl) rfl rfl (fun K hK => ?_) (fun K hK => ?_)
          · skip
            go_simp
            refine (index_Compile (some ⟨b, off, none⟩) cap k xs z wo.heap.size wd HSd.out HX.out (by omega) (box_lt HZ.out) (box_cells HZ.out 0)).mono ?_
            rintro r w3 ⟨rfl, hb3⟩
            rw [HSH.out]
            have hS3 := hS.below hb3
            refine hK.out _ _ (fun _ => hS3) ?_
            clear hK K hS
            have hS := hS3; clear hS3
            try simp only [List.getElem_toArray, List.getElem_cons_succ, List.getElem_cons_zero, Act.put, List.setIfInBounds_toArray, List.set_cons_zero, List.set_cons_succ]
            refine wpTill_take (i := 6) (v := ?v6_104) rfl (by kernel_rfl) (by kernel_rfl) (by kernel_rfl) (by kernel_rfl) (fun _ _ _ h => h) (Or.inl ⟨by rfl, ?y6_104⟩) hS ?r6_104
            case y6_104 => (intro wq hq; (try simp only [cells_cons, cells_nil, and_true] at hq); first | (go_simp; done) | (go_simp; with_reducible rfl) | (obtain ⟨hq1, hq2⟩ := hq; go_simp; with_reducible rfl))
            try simp only [List.getElem_toArray, List.getElem_cons_succ, List.getElem_cons_zero, Act.put, List.setIfInBounds_toArray, List.set_cons_zero, List.set_cons_succ]
            refine wpTill_take (i := 7) (v := ?v7_105) rfl (by kernel_rfl) (by kernel_rfl) (by kernel_rfl) (by kernel_rfl) (fun _ _ _ h => h) (Or.inl ⟨by rfl, ?y7_105⟩) hS ?r7_105
            case y7_105 => (intro wq hq; (try simp only [cells_cons, cells_nil, and_true] at hq); first | (go_simp; done) | (go_simp; with_reducible rfl) | (obtain ⟨hq1, hq2⟩ := hq; go_simp; with_reducible rfl))
            try simp only [List.getElem_toArray, List.getElem_cons_succ, List.getElem_cons_zero, Act.put, List.setIfInBounds_toArray, List.set_cons_zero, List.set_cons_succ]
            refine wpTill_op (i := 8) (by kernel_rfl) rfl (fun K hK => ?_)
            go_simp
            have hal : Below w3.heap.size w3 (w3.alloc (.cells #[.int .i64 0, .slice none 0 0] 40)) := (Below.refl _ _).alloc (Nat.le_refl _) _
            have hS4 := hS.below hal
            refine hK.out _ _ (fun _ => hS4) ?_
            clear hK K hS
            have hS := hS4; clear hS4
            try simp only [List.getElem_toArray, List.getElem_cons_succ, List.getElem_cons_zero, Act.put, List.setIfInBounds_toArray, List.set_cons_zero, List.set_cons_succ]
            refine wpTill_op (i := 9) (by kernel_rfl) rfl (fun K hK => ?_)
            go_simp
            refine hK.out _ _ (fun e => by cases e) ?_
            clear hK K hS
            refine wpTill_done (by kernel_rfl) ?_ _
            try simp only [List.getElem_toArray, List.getElem_cons_succ, List.getElem_cons_zero, Act.put, List.setIfInBounds_toArray, List.set_cons_zero, List.set_cons_succ]
            have hbm : Below wo.heap.size wo (w3.alloc (.cells #[.int .i64 z, .slice a' x.flds.length cap'] 40)) := (hWd.trans (hb3.mono hWd.size)).alloc (by have := hb3.size; have := hWd.size; omega) _
            have hM_ : (w3.alloc (.cells #[.int .i64 z, .slice a' x.flds.length cap'] 40)).heap[w3.heap.size]? = some (.cells #[.int .i64 z, .slice a' x.flds.length cap'] 40 (0, 0)) := hset_new rfl
            have hZ_ : (w3.alloc (.cells #[.int .i64 z, .slice a' x.flds.length cap'] 40)).heap[wo.heap.size]? = some (.cells #[.int .i64 z] 3 (0, 0)) := hset_alloc ((hb3.block _ (by omega)).trans HZ.out)
            have hzM : wo.heap.size < w3.heap.size := by have := hb3.size; omega
            obtain ⟨wm, hwm⟩ : ∃ q, (w3.alloc (.cells #[.int .i64 z, .slice a' x.flds.length cap'] 40)) = q := ⟨_, rfl⟩
            rw [hwm] at hbm hM_ hZ_ ⊢
            obtain ⟨M, hMe⟩ : ∃ q, w3.heap.size = q := ⟨_, rfl⟩
            rw [hMe] at hM_ hzM
            try simp only [hMe]
            clear hwm hMe hb3 HSd HZ hWd hzd
            have kM := box_cells hM_; have fM := box_frozen hM_; have hlM := box_lt hM_; have HM := Lib.hid hM_; clear hM_
            have kZ := box_cells hZ_ 0; have hlZ := box_lt hZ_; have HZ := Lib.hid hZ_; clear hZ_
            simp only [List.getElem?_toArray, List.getElem?_cons_zero] at kZ
            have hlZ1 : wo.heap.size < wm.heap.size + 1 := by omega
            have hlM1 : M < wm.heap.size + 1 := by omega
            go_wp2
            have HFl := Lib.hid (show Flds wm a' x.flds from Sl.keep hfsw hbm); 
            go_loopw [59] (fun i wi => ∃ p : Nat, p ≤ x.flds.length ∧ i = .int .i64 p ∧ (∃ v' : Value, wi.heap[wm.heap.size]? = some (.cells #[.int .i64 z, v'] 43 (0, 0)) ∧ wi.ownsRow (wm.heap.size + 1) 47 5 v' p (((x.flds.take p).map (ifld (sortI (xs.map Shp.id)))).flatMap Fld.cs)) ∧ Below wm.heap.size wm wi ∧ wm.heap.size < wi.heap.size) (fun i _ => x.flds.length - (intOf i).toNat)
            case atStart => exact ⟨0, Nat.zero_le _, rfl, ⟨.slice none 0 0, hset_new (by simp), World.ownsRow_nil _ _ _ _⟩, by ((repeat (first | (with_reducible exact Below.refl _ _) | (with_reducible assumption) | (with_reducible refine Below.alloc ?_ ?_ _) | (with_reducible refine Below.setCell ?_ ?_ _) | (with_reducible refine Below.drew ?_) | (with_reducible refine below_setRow ?_ ?_ _) | (refine Below.trans ?_ (Below.mono (by assumption) ?_)))); all_goals (first | omega | (simp; done) | (simp; omega))), by simp⟩
            case round =>
              obtain ⟨p, hp, rfl, ⟨v', hT, ho'⟩, hbi, hTl⟩ := hrel
              obtain ⟨wi, hwi⟩ : ∃ wi : World, wi = wr := ⟨_, rfl⟩
              rw [← hwi] at hT ho' hbi hTl ⊢
              clear hwi
              have kT := box_cells hT; have fT := box_frozen hT; have HT := Lib.hid hT; clear hT
              have HV := Lib.hid ho'; clear ho'
              have hzi := hbi.size
              have hIi : wi.heap[g]? = some (.cells cI 3 (0, 0)) := (hbi.block _ (by have := hbm.size; omega)).trans ((hbm.block _ hIl).trans HIx.out)
              have HIi := Lib.hid (own_block HIS.out (hIi.trans HCI.out.symm)); clear hIi
              by_cases hlp : p < x.flds.length
              · obtain ⟨f, hf, _⟩ := at_lt (xs := x.flds) (k := p) hlp
                obtain ⟨b2, off2, rfl, hbl2, d0, d1, d2, d3, d4⟩ := Flds.at (Sl.keep HFl.out hbi) hf
                have HFe := Lib.hid hf; clear hf
                have hpk : (p : Int) < (x.flds.length : Int) := by omega
                have hMl1 : wm.heap.size < wi.heap.size := by omega
                have hMl2 : wm.heap.size < wi.heap.size + 1 := by omega
                have hfl6 : x.flds.length ≤ 8 := hval.out.len HXM.out
                by_cases h8 : f.kind = 8
                · skip
                  have g8 : (f.kind == 8) = true := by simp; omega
                  have HRF := Lib.hid (show ifld (sortI (xs.map Shp.id)) f = ⟨f.number, f.kind, f.rep, f.packed, Lib.idxOf (sortI (xs.map Shp.id)) f.msg⟩ by rw [ifld, if_pos h8])
                  clear h8
                  go_wp2_with (first | (go_at_call 36; refine (index_own (w1.heap.size + 1) g c k (sortI (xs.map Shp.id)) f.msg _ (World.ownsRow.alloc (World.ownsRow.alloc HIi.out _) _) HSL.out (by omega)).mono ?_; rintro r wx ⟨rfl, rfl⟩) | (at_builtin; refine wpList_append_own _ rfl _ _ 41 rfl (wm.heap.size + 1) 47 j0 _ 5 32 Try.underlying41 hj hj0 hj1 hj2 rfl (by decide) v' p (((x.flds.take p).map (ifld (sortI (xs.map Shp.id)))).flatMap Fld.cs) rfl (owns_below HV.out (show Below wi.heap.size wi _ from by ((repeat (first | (with_reducible exact Below.refl _ _) | (with_reducible assumption) | (with_reducible refine Below.alloc ?_ ?_ _) | (with_reducible refine Below.setCell ?_ ?_ _) | (with_reducible refine Below.drew ?_) | (with_reducible refine below_setRow ?_ ?_ _) | (refine Below.trans ?_ (Below.mono (by assumption) ?_)))); all_goals (first | omega | (simp; done) | (simp; omega)))) (Nat.le_refl _)) ⟨wi.heap.size + 1 + 1, 0, none⟩ 1 1 [.int .i64 f.number, .int .i64 f.kind, .bool f.rep, .bool f.packed, .int .i64 (Lib.idxOf (sortI (xs.map Shp.id)) f.msg)] rfl rfl (World.news_of_block (cs := #[.int .i64 f.number, .int .i64 f.kind, .bool f.rep, .bool f.packed, .int .i64 (Lib.idxOf (sortI (xs.map Shp.id)) f.msg)]) (t := 47) (fr := (0, 0)) (hset_new (by simp))) (by simp [Value.oneCell']) (by unfold maxLen; omega) (by omega) (by simp; omega) ?_; intro v2 w2 hown2 hgr2 _; obtain ⟨a5, cap5, rfl, _⟩ := own_sh hown2; have hbg : Below wi.heap.size wi _ := (by ((repeat (first | (with_reducible exact Below.refl _ _) | (with_reducible assumption) | (with_reducible refine Below.alloc ?_ ?_ _) | (with_reducible refine Below.setCell ?_ ?_ _) | (with_reducible refine Below.drew ?_) | (with_reducible refine below_setRow ?_ ?_ _) | (refine Below.trans ?_ (Below.mono (by assumption) ?_)))); all_goals (first | omega | (simp; done) | (simp; omega)))); have hsz2 := hgr2.size; simp only [World.size_alloc, World.size_setCell] at hsz2; have hT2 := (hgr2.block wm.heap.size (by simp; omega) (fun e => by have := (HV.out.lt _ e.symm).1; omega)).trans (hset_alloc (hset_alloc (hset_alloc HT.out))); have kT2 := box_cells hT2; have fT2 := box_frozen hT2; have hTl3 := box_lt hT2; have HT2 := Lib.hid hT2; clear hT2 kT fT; have hb2 : Below wm.heap.size wm w2 := below_grown (hbi.trans ((show Below wi.heap.size wi _ from by ((repeat (first | (with_reducible exact Below.refl _ _) | (with_reducible assumption) | (with_reducible refine Below.alloc ?_ ?_ _) | (with_reducible refine Below.setCell ?_ ?_ _) | (with_reducible refine Below.drew ?_) | (with_reducible refine below_setRow ?_ ?_ _) | (refine Below.trans ?_ (Below.mono (by assumption) ?_)))); all_goals (first | omega | (simp; done) | (simp; omega)))).mono hzi)) hgr2 (fun g e => by have := (HV.out.lt g e).1; omega) (by simp; omega); clear hbg))
                  have HW2 := Lib.hid hown2; clear hown2 hgr2 kT2 fT2
                  go_roundw
                  case rel =>
                    refine ⟨p + 1, by omega, by go_num, ⟨.slice a5 (p + 1) cap5, ?_, ?_⟩, ?_, by simpa using hTl3⟩
                    · apply hset_eq (hset_set HT2.out); simp only [List.setIfInBounds_toArray, List.set_cons_zero, List.set_cons_succ]
                    · rw [ifld_take HFe.out, HRF.out]; exact owns_keep HW2.out (only_set _ _ _ _) (other_box HT2.out (by decide))
                    · exact hb2.setCell (by first | omega | (simp; done) | (simp; omega)) _
                  case measure => simp [intOf]; omega
                · skip
                  have g8 : (f.kind == 8) = false := by simp; omega
                  have HRF := Lib.hid (show ifld (sortI (xs.map Shp.id)) f = ⟨f.number, f.kind, f.rep, f.packed, -1⟩ by rw [ifld, if_neg h8])
                  clear h8
                  go_wp2_with (first | (at_builtin; refine wpList_append_own _ rfl _ _ 41 rfl (wm.heap.size + 1) 47 j0 _ 5 32 Try.underlying41 hj hj0 hj1 hj2 rfl (by decide) v' p (((x.flds.take p).map (ifld (sortI (xs.map Shp.id)))).flatMap Fld.cs) rfl (owns_below HV.out (show Below wi.heap.size wi _ from by ((repeat (first | (with_reducible exact Below.refl _ _) | (with_reducible assumption) | (with_reducible refine Below.alloc ?_ ?_ _) | (with_reducible refine Below.setCell ?_ ?_ _) | (with_reducible refine Below.drew ?_) | (with_reducible refine below_setRow ?_ ?_ _) | (refine Below.trans ?_ (Below.mono (by assumption) ?_)))); all_goals (first | omega | (simp; done) | (simp; omega)))) (Nat.le_refl _)) ⟨wi.heap.size + 1 + 1, 0, none⟩ 1 1 [.int .i64 f.number, .int .i64 f.kind, .bool f.rep, .bool f.packed, .int .i64 (-1)] rfl rfl (World.news_of_block (cs := #[.int .i64 f.number, .int .i64 f.kind, .bool f.rep, .bool f.packed, .int .i64 (-1)]) (t := 47) (fr := (0, 0)) (hset_new (by simp))) (by simp [Value.oneCell']) (by unfold maxLen; omega) (by omega) (by simp; omega) ?_; intro v2 w2 hown2 hgr2 _; obtain ⟨a5, cap5, rfl, _⟩ := own_sh hown2; have hbg : Below wi.heap.size wi _ := (by ((repeat (first | (with_reducible exact Below.refl _ _) | (with_reducible assumption) | (with_reducible refine Below.alloc ?_ ?_ _) | (with_reducible refine Below.setCell ?_ ?_ _) | (with_reducible refine Below.drew ?_) | (with_reducible refine below_setRow ?_ ?_ _) | (refine Below.trans ?_ (Below.mono (by assumption) ?_)))); all_goals (first | omega | (simp; done) | (simp; omega)))); have hsz2 := hgr2.size; simp only [World.size_alloc, World.size_setCell] at hsz2; have hT2 := (hgr2.block wm.heap.size (by simp; omega) (fun e => by have := (HV.out.lt _ e.symm).1; omega)).trans (hset_alloc (hset_alloc (hset_alloc HT.out))); have kT2 := box_cells hT2; have fT2 := box_frozen hT2; have hTl3 := box_lt hT2; have HT2 := Lib.hid hT2; clear hT2 kT fT; have hb2 : Below wm.heap.size wm w2 := below_grown (hbi.trans ((show Below wi.heap.size wi _ from by ((repeat (first | (with_reducible exact Below.refl _ _) | (with_reducible assumption) | (with_reducible refine Below.alloc ?_ ?_ _) | (with_reducible refine Below.setCell ?_ ?_ _) | (with_reducible refine Below.drew ?_) | (with_reducible refine below_setRow ?_ ?_ _) | (refine Below.trans ?_ (Below.mono (by assumption) ?_)))); all_goals (first | omega | (simp; done) | (simp; omega)))).mono hzi)) hgr2 (fun g e => by have := (HV.out.lt g e).1; omega) (by simp; omega); clear hbg))
                  have HW2 := Lib.hid hown2; clear hown2 hgr2 kT2 fT2
                  go_roundw
                  case rel =>
                    refine ⟨p + 1, by omega, by go_num, ⟨.slice a5 (p + 1) cap5, ?_, ?_⟩, ?_, by simpa using hTl3⟩
                    · apply hset_eq (hset_set HT2.out); simp only [List.setIfInBounds_toArray, List.set_cons_zero, List.set_cons_succ]
                    · rw [ifld_take HFe.out, HRF.out]; exact owns_keep HW2.out (only_set _ _ _ _) (other_box HT2.out (by decide))
                    · exact hb2.setCell (by first | omega | (simp; done) | (simp; omega)) _
                  case measure => simp [intOf]; omega
              · obtain rfl : p = x.flds.length := by omega
                obtain ⟨a4, cap4, rfl, _⟩ := own_sh HV.out
                have HV1 := Lib.hid (show wi.ownsRow (wm.heap.size + 1) 47 5 (.slice a4 x.flds.length cap4) x.flds.length ((x.flds.map (ifld (sortI (xs.map Shp.id)))).flatMap Fld.cs) by have := HV.out; rw [List.take_of_length_le (Nat.le_refl _)] at this; exact this)
                clear HV
                have hfl8 : x.flds.length ≤ 8 := hval.out.len HXM.out
                go_wp2_with fail
                refine (sortFlds_own (wm.heap.size + 1) cap4 x.flds.length a4 (x.flds.map (ifld (sortI (xs.map Shp.id)))) wi HV1.out (by simp) (by omega)).mono ?_
                rintro r wz ⟨rfl, dl, hpe, hso, hoz, hgz⟩
                have hd : dl = cflds xs [] x.flds := sorted_fields hval.out HXM.out hpe hso
                rw [hd] at hoz
                clear hpe hso hd
                have hbz : Below wm.heap.size wm wz := below_grown hbi hgz (fun u e => by have := (HV1.out.lt u e).1; omega) (by omega)
                have hTz := (hgz.block wm.heap.size hTl (fun e => by have := (HV1.out.lt _ e.symm).1; omega)).trans HT.out
                have kTz := box_cells hTz; have hTzl := box_lt hTz
                have hzz := hbz.size
                have hzm := hbm.size
                have hbq : Below wo.heap.size wo wz := hbm.trans (hbz.mono hbm.size)
                have HOz := Lib.hid (OwnShs.below HO.out hbq (Nat.le_refl _))
                have hOz := (hbq.block _ hOl).trans HOx.out
                have kOz := box_cells hOz 0; have fOz := box_frozen hOz 0; have hOzl := box_lt hOz
                simp only [List.getElem?_toArray, List.getElem?_cons_zero] at kOz
                have HOb := Lib.hid hOz; clear hOz hTz kT fT
                have HRow := Lib.hid (show RowIs wz wS.heap.size 47 ⟨z, a4, x.flds.length, cap4⟩ ⟨z, cflds xs [] x.flds⟩ from ⟨rfl, by simp [cflds_len], owns_le hoz (by omega)⟩)
                have HAP := Lib.hid (fresh_apart (r := ⟨z, a4, x.flds.length, cap4⟩) HO.out (by omega) hoz)
                clear hoz hgz
                go_wp2_with (first | (at_builtin; refine wpList_append_own _ rfl _ _ 28 rfl wS.heap.size 43 s0 _ 2 32 Try.underlying28 hs hs0 hs1 hs2 rfl (by decide) v q (rs.flatMap ShR.cs) rfl (HOz.out.alloc _).outer ⟨wz.heap.size, 0, none⟩ 1 1 [.int .i64 z, .slice a4 x.flds.length cap4] rfl rfl (World.news_of_block (cs := #[.int .i64 z, .slice a4 x.flds.length cap4]) (t := 43) (fr := (0, 0)) (hset_new rfl)) (by simp [Value.oneCell']) (by unfold maxLen; omega) (by omega) (by simp; omega) ?_; intro v2 w2 hown2 hgr2 _; obtain ⟨a5, cap5, rfl, _⟩ := own_sh hown2; have hsz2 := hgr2.size; simp only [World.size_alloc, World.size_setCell] at hsz2; have HP := Lib.hid ((HOz.out.alloc _).push (w' := w2) (by decide) (HRow.out.alloc _) HAP.out hown2 hgr2); have hb2 : Below wS.heap.size wo w2 := below_grown ((hbq.mono hzS2).alloc (by omega) _) hgr2 (fun u e => (HOz.out.outer.lt u e).1) (by simp; omega); have hO2 := (hb2.block _ hOlS).trans HOx.out; have kO2 := box_cells hO2 0; have fO2 := box_frozen hO2 0; have hOl2 := box_lt hO2; simp only [List.getElem?_toArray, List.getElem?_cons_zero] at kO2; have HO2 := Lib.hid hO2; clear hO2 hown2 hgr2 kOz fOz))
                go_roundw
                case rel =>
                  refine ⟨q + 1, by omega, by go_num, ⟨.slice a5 (q + 1) cap5, rs ++ [⟨z, a4, x.flds.length, cap4⟩], ?_, ?_⟩, ?_, ?_, ?_, ?_, ?_, ?_⟩
                  · have hT : (compS xs).take (q + 1) = (compS xs).take q ++ [⟨z, cflds xs [] x.flds⟩] := by rw [List.take_add_one, HYS.out]; rfl
                    rw [hT]; exact HP.out.set (by simp only; omega) _
                  · exact hset_same HO2.out rfl
                  · exact hset_other ((hb2.block _ hgl').trans HIx.out) (by simp only; omega)
                  · exact hset_other ((hb2.block _ hAlS).trans HAx.out) (by simp only; omega)
                  · exact hset_other ((hb2.block _ hSlS).trans HSx.out) (by simp only; omega)
                  · exact hset_other ((hb2.block _ hVlS).trans HVx.out) (by simp only; omega)
                  · exact (hb.trans (hb2.mono (by omega))).setCell (by simp only; omega) _
                  · simp; omega
                case measure => simp [intOf]; omega
          · skip
            go_simp
            have hal : Below wd.heap.size wd (wd.alloc (.cells #[.int .i64 0, .slice none 0 0] 40)) := (Below.refl _ _).alloc (Nat.le_refl _) _
            have hS4 := hS.below hal
            refine hK.out _ _ (fun _ => hS4) ?_
            clear hK K hS
            have hS := hS4; clear hS4
            try simp only [List.getElem_toArray, List.getElem_cons_succ, List.getElem_cons_zero, Act.put, List.setIfInBounds_toArray, List.set_cons_zero, List.set_cons_succ]
            refine wpTill_op (i := 5) (by kernel_rfl) rfl (fun K hK => ?_)
            go_simp
            refine (index_Compile (some ⟨b, off, none⟩) cap k xs z wo.heap.size _ (HSd.out.keep hal) HX.out (by omega) (by simp; omega) (box_cells (hset_alloc HZ.out) 0)).mono ?_
            rintro r w3 ⟨rfl, hb3⟩
            rw [HSH.out]
            have hS3 := hS.below hb3
            refine hK.out _ _ (fun _ => hS3) ?_
            clear hK K hS
            have hS := hS3; clear hS3
            try simp only [List.getElem_toArray, List.getElem_cons_succ, List.getElem_cons_zero, Act.put, List.setIfInBounds_toArray, List.set_cons_zero, List.set_cons_succ]
            have hM3 := (hb3.block wd.heap.size (by simp)).trans (hset_new (o := .cells #[.int .i64 0, .slice none 0 0] 40) (by simp))
            rw [hzd] at hM3
            have kM3 := box_cells hM3; have fM3 := box_frozen hM3; have hlM3 := box_lt hM3
            refine wpTill_take (i := 6) (v := ?v6_106) rfl (by kernel_rfl) (by kernel_rfl) (by kernel_rfl) (by kernel_rfl) (fun _ _ _ h => h) (Or.inl ⟨by rfl, ?y6_106⟩) hS ?r6_106
            case y6_106 => (intro wq hq; (try simp only [cells_cons, cells_nil, and_true] at hq); first | (go_simp; done) | (go_simp; with_reducible rfl) | (obtain ⟨hq1, hq2⟩ := hq; go_simp; with_reducible rfl))
            try simp only [List.getElem_toArray, List.getElem_cons_succ, List.getElem_cons_zero, Act.put, List.setIfInBounds_toArray, List.set_cons_zero, List.set_cons_succ]
            refine wpTill_take (i := 7) (v := ?v7_107) rfl (by kernel_rfl) (by kernel_rfl) (by kernel_rfl) (by kernel_rfl) (fun _ _ _ h => h) (Or.inl ⟨by rfl, ?y7_107⟩) hS ?r7_107
            case y7_107 => (intro wq hq; (try simp only [cells_cons, cells_nil, and_true] at hq); first | (go_simp; done) | (go_simp; with_reducible rfl) | (obtain ⟨hq1, hq2⟩ := hq; go_simp; with_reducible rfl))
            try simp only [List.getElem_toArray, List.getElem_cons_succ, List.getElem_cons_zero, Act.put, List.setIfInBounds_toArray, List.set_cons_zero, List.set_cons_succ]
            refine wpTill_op (i := 9) (by kernel_rfl) rfl (fun K hK => ?_)
            go_simp
            refine hK.out _ _ (fun e => by cases e) ?_
            clear hK K hS
            refine wpTill_done (by kernel_rfl) ?_ _
            try simp only [List.getElem_toArray, List.getElem_cons_succ, List.getElem_cons_zero, Act.put, List.setIfInBounds_toArray, List.set_cons_zero, List.set_cons_succ]
            have hb3' : Below wo.heap.size wo w3 := hWd.trans ((hal.trans (hb3.mono hal.size)).mono hWd.size)
            have hbm : Below wo.heap.size wo ((w3.setCell ⟨wo.heap.size + 1, 0, none⟩ (.int .i64 z)).setCell ⟨wo.heap.size + 1, 1, none⟩ (.slice a' x.flds.length cap')) := (hb3'.setCell (by simp only; omega) _).setCell (by simp only; omega) _
            have hM_ : ((w3.setCell ⟨wo.heap.size + 1, 0, none⟩ (.int .i64 z)).setCell ⟨wo.heap.size + 1, 1, none⟩ (.slice a' x.flds.length cap')).heap[wo.heap.size + 1]? = some (.cells #[.int .i64 z, .slice a' x.flds.length cap'] 40 (0, 0)) := by apply hset_eq (hset_set (hset_set hM3)); rfl
            have hZ_ : ((w3.setCell ⟨wo.heap.size + 1, 0, none⟩ (.int .i64 z)).setCell ⟨wo.heap.size + 1, 1, none⟩ (.slice a' x.flds.length cap')).heap[wo.heap.size]? = some (.cells #[.int .i64 z] 3 (0, 0)) := hset_other (hset_other ((hb3.block _ (by simp; omega)).trans (hset_alloc HZ.out)) (by simp)) (by simp)
            have hzM : wo.heap.size < wo.heap.size + 1 := by omega
            obtain ⟨wm, hwm⟩ : ∃ q, ((w3.setCell ⟨wo.heap.size + 1, 0, none⟩ (.int .i64 z)).setCell ⟨wo.heap.size + 1, 1, none⟩ (.slice a' x.flds.length cap')) = q := ⟨_, rfl⟩
            rw [hwm] at hbm hM_ hZ_ ⊢
            obtain ⟨M, hMe⟩ : ∃ q, wo.heap.size + 1 = q := ⟨_, rfl⟩
            rw [hMe] at hM_ hzM
            try simp only [hMe]
            clear hwm hMe hb3 hb3' HSd HZ hWd hzd hal hM3 kM3 fM3 hlM3
            have kM := box_cells hM_; have fM := box_frozen hM_; have hlM := box_lt hM_; have HM := Lib.hid hM_; clear hM_
            have kZ := box_cells hZ_ 0; have hlZ := box_lt hZ_; have HZ := Lib.hid hZ_; clear hZ_
            simp only [List.getElem?_toArray, List.getElem?_cons_zero] at kZ
            have hlZ1 : wo.heap.size < wm.heap.size + 1 := by omega
            have hlM1 : M < wm.heap.size + 1 := by omega
            go_wp2
            have HFl := Lib.hid (show Flds wm a' x.flds from Sl.keep hfsw hbm); 
            go_loopw [59] (fun i wi => ∃ p : Nat, p ≤ x.flds.length ∧ i = .int .i64 p ∧ (∃ v' : Value, wi.heap[wm.heap.size]? = some (.cells #[.int .i64 z, v'] 43 (0, 0)) ∧ wi.ownsRow (wm.heap.size + 1) 47 5 v' p (((x.flds.take p).map (ifld (sortI (xs.map Shp.id)))).flatMap Fld.cs)) ∧ Below wm.heap.size wm wi ∧ wm.heap.size < wi.heap.size) (fun i _ => x.flds.length - (intOf i).toNat)
            case atStart => exact ⟨0, Nat.zero_le _, rfl, ⟨.slice none 0 0, hset_new (by simp), World.ownsRow_nil _ _ _ _⟩, by ((repeat (first | (with_reducible exact Below.refl _ _) | (with_reducible assumption) | (with_reducible refine Below.alloc ?_ ?_ _) | (with_reducible refine Below.setCell ?_ ?_ _) | (with_reducible refine Below.drew ?_) | (with_reducible refine below_setRow ?_ ?_ _) | (refine Below.trans ?_ (Below.mono (by assumption) ?_)))); all_goals (first | omega | (simp; done) | (simp; omega))), by simp⟩
            case round =>
              obtain ⟨p, hp, rfl, ⟨v', hT, ho'⟩, hbi, hTl⟩ := hrel
              obtain ⟨wi, hwi⟩ : ∃ wi : World, wi = wr := ⟨_, rfl⟩
              rw [← hwi] at hT ho' hbi hTl ⊢
              clear hwi
              have kT := box_cells hT; have fT := box_frozen hT; have HT := Lib.hid hT; clear hT
              have HV := Lib.hid ho'; clear ho'
              have hzi := hbi.size
              have hIi : wi.heap[g]? = some (.cells cI 3 (0, 0)) := (hbi.block _ (by have := hbm.size; omega)).trans ((hbm.block _ hIl).trans HIx.out)
              have HIi := Lib.hid (own_block HIS.out (hIi.trans HCI.out.symm)); clear hIi
              by_cases hlp : p < x.flds.length
              · obtain ⟨f, hf, _⟩ := at_lt (xs := x.flds) (k := p) hlp
                obtain ⟨b2, off2, rfl, hbl2, d0, d1, d2, d3, d4⟩ := Flds.at (Sl.keep HFl.out hbi) hf
                have HFe := Lib.hid hf; clear hf
                have hpk : (p : Int) < (x.flds.length : Int) := by omega
                have hMl1 : wm.heap.size < wi.heap.size := by omega
                have hMl2 : wm.heap.size < wi.heap.size + 1 := by omega
                have hfl6 : x.flds.length ≤ 8 := hval.out.len HXM.out
                by_cases h8 : f.kind = 8
                · skip
                  have g8 : (f.kind == 8) = true := by simp; omega
                  have HRF := Lib.hid (show ifld (sortI (xs.map Shp.id)) f = ⟨f.number, f.kind, f.rep, f.packed, Lib.idxOf (sortI (xs.map Shp.id)) f.msg⟩ by rw [ifld, if_pos h8])
                  clear h8
                  go_wp2_with (first | (go_at_call 36; refine (index_own (w1.heap.size + 1) g c k (sortI (xs.map Shp.id)) f.msg _ (World.ownsRow.alloc (World.ownsRow.alloc HIi.out _) _) HSL.out (by omega)).mono ?_; rintro r wx ⟨rfl, rfl⟩) | (at_builtin; refine wpList_append_own _ rfl _ _ 41 rfl (wm.heap.size + 1) 47 j0 _ 5 32 Try.underlying41 hj hj0 hj1 hj2 rfl (by decide) v' p (((x.flds.take p).map (ifld (sortI (xs.map Shp.id)))).flatMap Fld.cs) rfl (owns_below HV.out (show Below wi.heap.size wi _ from by ((repeat (first | (with_reducible exact Below.refl _ _) | (with_reducible assumption) | (with_reducible refine Below.alloc ?_ ?_ _) | (with_reducible refine Below.setCell ?_ ?_ _) | (with_reducible refine Below.drew ?_) | (with_reducible refine below_setRow ?_ ?_ _) | (refine Below.trans ?_ (Below.mono (by assumption) ?_)))); all_goals (first | omega | (simp; done) | (simp; omega)))) (Nat.le_refl _)) ⟨wi.heap.size + 1 + 1, 0, none⟩ 1 1 [.int .i64 f.number, .int .i64 f.kind, .bool f.rep, .bool f.packed, .int .i64 (Lib.idxOf (sortI (xs.map Shp.id)) f.msg)] rfl rfl (World.news_of_block (cs := #[.int .i64 f.number, .int .i64 f.kind, .bool f.rep, .bool f.packed, .int .i64 (Lib.idxOf (sortI (xs.map Shp.id)) f.msg)]) (t := 47) (fr := (0, 0)) (hset_new (by simp))) (by simp [Value.oneCell']) (by unfold maxLen; omega) (by omega) (by simp; omega) ?_; intro v2 w2 hown2 hgr2 _; obtain ⟨a5, cap5, rfl, _⟩ := own_sh hown2; have hbg : Below wi.heap.size wi _ := (by ((repeat (first | (with_reducible exact Below.refl _ _) | (with_reducible assumption) | (with_reducible refine Below.alloc ?_ ?_ _) | (with_reducible refine Below.setCell ?_ ?_ _) | (with_reducible refine Below.drew ?_) | (with_reducible refine below_setRow ?_ ?_ _) | (refine Below.trans ?_ (Below.mono (by assumption) ?_)))); all_goals (first | omega | (simp; done) | (simp; omega)))); have hsz2 := hgr2.size; simp only [World.size_alloc, World.size_setCell] at hsz2; have hT2 := (hgr2.block wm.heap.size (by simp; omega) (fun e => by have := (HV.out.lt _ e.symm).1; omega)).trans (hset_alloc (hset_alloc (hset_alloc HT.out))); have kT2 := box_cells hT2; have fT2 := box_frozen hT2; have hTl3 := box_lt hT2; have HT2 := Lib.hid hT2; clear hT2 kT fT; have hb2 : Below wm.heap.size wm w2 := below_grown (hbi.trans ((show Below wi.heap.size wi _ from by ((repeat (first | (with_reducible exact Below.refl _ _) | (with_reducible assumption) | (with_reducible refine Below.alloc ?_ ?_ _) | (with_reducible refine Below.setCell ?_ ?_ _) | (with_reducible refine Below.drew ?_) | (with_reducible refine below_setRow ?_ ?_ _) | (refine Below.trans ?_ (Below.mono (by assumption) ?_)))); all_goals (first | omega | (simp; done) | (simp; omega)))).mono hzi)) hgr2 (fun g e => by have := (HV.out.lt g e).1; omega) (by simp; omega); clear hbg))
                  have HW2 := Lib.hid hown2; clear hown2 hgr2 kT2 fT2
                  go_roundw
                  case rel =>
                    refine ⟨p + 1, by omega, by go_num, ⟨.slice a5 (p + 1) cap5, ?_, ?_⟩, ?_, by simpa using hTl3⟩
                    · apply hset_eq (hset_set HT2.out); simp only [List.setIfInBounds_toArray, List.set_cons_zero, List.set_cons_succ]
                    · rw [ifld_take HFe.out, HRF.out]; exact owns_keep HW2.out (only_set _ _ _ _) (other_box HT2.out (by decide))
                    · exact hb2.setCell (by first | omega | (simp; done) | (simp; omega)) _
                  case measure => simp [intOf]; omega
                · skip
                  have g8 : (f.kind == 8) = false := by simp; omega
                  have HRF := Lib.hid (show ifld (sortI (xs.map Shp.id)) f = ⟨f.number, f.kind, f.rep, f.packed, -1⟩ by rw [ifld, if_neg h8])
                  clear h8
                  go_wp2_with (first | (at_builtin; refine wpList_append_own _ rfl _ _ 41 rfl (wm.heap.size + 1) 47 j0 _ 5 32 Try.underlying41 hj hj0 hj1 hj2 rfl (by decide) v' p (((x.flds.take p).map (ifld (sortI (xs.map Shp.id)))).flatMap Fld.cs) rfl (owns_below HV.out (show Below wi.heap.size wi _ from by ((repeat (first | (with_reducible exact Below.refl _ _) | (with_reducible assumption) | (with_reducible refine Below.alloc ?_ ?_ _) | (with_reducible refine Below.setCell ?_ ?_ _) | (with_reducible refine Below.drew ?_) | (with_reducible refine below_setRow ?_ ?_ _) | (refine Below.trans ?_ (Below.mono (by assumption) ?_)))); all_goals (first | omega | (simp; done) | (simp; omega)))) (Nat.le_refl _)) ⟨wi.heap.size + 1 + 1, 0, none⟩ 1 1 [.int .i64 f.number, .int .i64 f.kind, .bool f.rep, .bool f.packed, .int .i64 (-1)] rfl rfl (World.news_of_block (cs := #[.int .i64 f.number, .int .i64 f.kind, .bool f.rep, .bool f.packed, .int .i64 (-1)]) (t := 47) (fr := (0, 0)) (hset_new (by simp))) (by simp [Value.oneCell']) (by unfold maxLen; omega) (by omega) (by simp; omega) ?_; intro v2 w2 hown2 hgr2 _; obtain ⟨a5, cap5, rfl, _⟩ := own_sh hown2; have hbg : Below wi.heap.size wi _ := (by ((repeat (first | (with_reducible exact Below.refl _ _) | (with_reducible assumption) | (with_reducible refine Below.alloc ?_ ?_ _) | (with_reducible refine Below.setCell ?_ ?_ _) | (with_reducible refine Below.drew ?_) | (with_reducible refine below_setRow ?_ ?_ _) | (refine Below.trans ?_ (Below.mono (by assumption) ?_)))); all_goals (first | omega | (simp; done) | (simp; omega)))); have hsz2 := hgr2.size; simp only [World.size_alloc, World.size_setCell] at hsz2; have hT2 := (hgr2.block wm.heap.size (by simp; omega) (fun e => by have := (HV.out.lt _ e.symm).1; omega)).trans (hset_alloc (hset_alloc (hset_alloc HT.out))); have kT2 := box_cells hT2; have fT2 := box_frozen hT2; have hTl3 := box_lt hT2; have HT2 := Lib.hid hT2; clear hT2 kT fT; have hb2 : Below wm.heap.size wm w2 := below_grown (hbi.trans ((show Below wi.heap.size wi _ from by ((repeat (first | (with_reducible exact Below.refl _ _) | (with_reducible assumption) | (with_reducible refine Below.alloc ?_ ?_ _) | (with_reducible refine Below.setCell ?_ ?_ _) | (with_reducible refine Below.drew ?_) | (with_reducible refine below_setRow ?_ ?_ _) | (refine Below.trans ?_ (Below.mono (by assumption) ?_)))); all_goals (first | omega | (simp; done) | (simp; omega)))).mono hzi)) hgr2 (fun g e => by have := (HV.out.lt g e).1; omega) (by simp; omega); clear hbg))
                  have HW2 := Lib.hid hown2; clear hown2 hgr2 kT2 fT2
                  go_roundw
                  case rel =>
                    refine ⟨p + 1, by omega, by go_num, ⟨.slice a5 (p + 1) cap5, ?_, ?_⟩, ?_, by simpa using hTl3⟩
                    · apply hset_eq (hset_set HT2.out); simp only [List.setIfInBounds_toArray, List.set_cons_zero, List.set_cons_succ]
                    · rw [ifld_take HFe.out, HRF.out]; exact owns_keep HW2.out (only_set _ _ _ _) (other_box HT2.out (by decide))
                    · exact hb2.setCell (by first | omega | (simp; done) | (simp; omega)) _
                  case measure => simp [intOf]; omega
              · obtain rfl : p = x.flds.length := by omega
                obtain ⟨a4, cap4, rfl, _⟩ := own_sh HV.out
                have HV1 := Lib.hid (show wi.ownsRow (wm.heap.size + 1) 47 5 (.slice a4 x.flds.length cap4) x.flds.length ((x.flds.map (ifld (sortI (xs.map Shp.id)))).flatMap Fld.cs) by have := HV.out; rw [List.take_of_length_le (Nat.le_refl _)] at this; exact this)
                clear HV
                have hfl8 : x.flds.length ≤ 8 := hval.out.len HXM.out
                go_wp2_with fail
                refine (sortFlds_own (wm.heap.size + 1) cap4 x.flds.length a4 (x.flds.map (ifld (sortI (xs.map Shp.id)))) wi HV1.out (by simp) (by omega)).mono ?_
                rintro r wz ⟨rfl, dl, hpe, hso, hoz, hgz⟩
                have hd : dl = cflds xs [] x.flds := sorted_fields hval.out HXM.out hpe hso
                rw [hd] at hoz
                clear hpe hso hd
                have hbz : Below wm.heap.size wm wz := below_grown hbi hgz (fun u e => by have := (HV1.out.lt u e).1; omega) (by omega)
                have hTz := (hgz.block wm.heap.size hTl (fun e => by have := (HV1.out.lt _ e.symm).1; omega)).trans HT.out
                have kTz := box_cells hTz; have hTzl := box_lt hTz
                have hzz := hbz.size
                have hzm := hbm.size
                have hbq : Below wo.heap.size wo wz := hbm.trans (hbz.mono hbm.size)
                have HOz := Lib.hid (OwnShs.below HO.out hbq (Nat.le_refl _))
                have hOz := (hbq.block _ hOl).trans HOx.out
                have kOz := box_cells hOz 0; have fOz := box_frozen hOz 0; have hOzl := box_lt hOz
                simp only [List.getElem?_toArray, List.getElem?_cons_zero] at kOz
                have HOb := Lib.hid hOz; clear hOz hTz kT fT
                have HRow := Lib.hid (show RowIs wz wS.heap.size 47 ⟨z, a4, x.flds.length, cap4⟩ ⟨z, cflds xs [] x.flds⟩ from ⟨rfl, by simp [cflds_len], owns_le hoz (by omega)⟩)
                have HAP := Lib.hid (fresh_apart (r := ⟨z, a4, x.flds.length, cap4⟩) HO.out (by omega) hoz)
                clear hoz hgz
                go_wp2_with (first | (at_builtin; refine wpList_append_own _ rfl _ _ 28 rfl wS.heap.size 43 s0 _ 2 32 Try.underlying28 hs hs0 hs1 hs2 rfl (by decide) v q (rs.flatMap ShR.cs) rfl (HOz.out.alloc _).outer ⟨wz.heap.size, 0, none⟩ 1 1 [.int .i64 z, .slice a4 x.flds.length cap4] rfl rfl (World.news_of_block (cs := #[.int .i64 z, .slice a4 x.flds.length cap4]) (t := 43) (fr := (0, 0)) (hset_new rfl)) (by simp [Value.oneCell']) (by unfold maxLen; omega) (by omega) (by simp; omega) ?_; intro v2 w2 hown2 hgr2 _; obtain ⟨a5, cap5, rfl, _⟩ := own_sh hown2; have hsz2 := hgr2.size; simp only [World.size_alloc, World.size_setCell] at hsz2; have HP := Lib.hid ((HOz.out.alloc _).push (w' := w2) (by decide) (HRow.out.alloc _) HAP.out hown2 hgr2); have hb2 : Below wS.heap.size wo w2 := below_grown ((hbq.mono hzS2).alloc (by omega) _) hgr2 (fun u e => (HOz.out.outer.lt u e).1) (by simp; omega); have hO2 := (hb2.block _ hOlS).trans HOx.out; have kO2 := box_cells hO2 0; have fO2 := box_frozen hO2 0; have hOl2 := box_lt hO2; simp only [List.getElem?_toArray, List.getElem?_cons_zero] at kO2; have HO2 := Lib.hid hO2; clear hO2 hown2 hgr2 kOz fOz))
                go_roundw
                case rel =>
                  refine ⟨q + 1, by omega, by go_num, ⟨.slice a5 (q + 1) cap5, rs ++ [⟨z, a4, x.flds.length, cap4⟩], ?_, ?_⟩, ?_, ?_, ?_, ?_, ?_, ?_⟩
                  · have hT : (compS xs).take (q + 1) = (compS xs).take q ++ [⟨z, cflds xs [] x.flds⟩] := by rw [List.take_add_one, HYS.out]; rfl
                    rw [hT]; exact HP.out.set (by simp only; omega) _
                  · exact hset_same HO2.out rfl
                  · exact hset_other ((hb2.block _ hgl').trans HIx.out) (by simp only; omega)
                  · exact hset_other ((hb2.block _ hAlS).trans HAx.out) (by simp only; omega)
                  · exact hset_other ((hb2.block _ hSlS).trans HSx.out) (by simp only; omega)
                  · exact hset_other ((hb2.block _ hVlS).trans HVx.out) (by simp only; omega)
                  · exact (hb.trans (hb2.mono (by omega))).setCell (by simp only; omega) _
                  · simp; omega
                case measure => simp [intOf]; omega
        · obtain rfl : q = k := by omega
          obtain ⟨a2, cap2, rfl, ho2⟩ := own_sh HO.out.outer
          have HF2 := Lib.hid (show OwnShs wo wS.heap.size 43 47 (.slice a2 q cap2) q rs (compS xs) by have := HO.out; rw [List.take_of_length_le (by rw [HYL.out]; omega)] at this; exact this)
          clear HO ho2
          have kS := box_cells hS; have fS := box_frozen hS; have hSl3 := box_lt hS
          have kV := box_cells hV; have fV := box_frozen hV; have hVl3 := box_lt hV
          go_wp2
          refine bodyPost_ret (results_cell_cell Try.results8 rfl rfl (run_loadVar_mid _ (w.heap.size + 1) 0 30 [.slice a2 q cap2] _ (range_of_box (t := 30) ?_) Try.underlying30 rfl (by kernel_rfl)) (run_loadVar_mid _ (w.heap.size + 1 + 1) 0 32 [.int .i64 0, .int .i64 0, .int .i64 0] _ (range_of_box (t := 32) ?_) Try.underlying32 rfl (by kernel_rfl))) rfl ⟨a2, cap2, rs, rfl, ?_, ?_⟩
          · apply hset_eq (hset_other (hset_other (hset_other (hset_set hS) (by simp)) (by simp)) (by simp)); rfl
          · apply hset_eq (hset_set (hset_set (hset_set (hset_other hV (by simp))))); rfl
          · exact OwnShs.le ((((HF2.out.set (by simp only; omega) _).set (by simp only; omega) _).set (by simp only; omega) _).set (by simp only; omega) _) (by omega)
          · exact (((hb.setCell (by simp only; omega) _).setCell (by simp only; omega) _).setCell (by simp only; omega) _).setCell (by simp only; omega) _
def compR (xs : List Shp) : List Shp := if (firstV xs).1 = 0 then compS xs else []
def FreshCmp (w : World) (xs : List Shp) (r : Ending) (w' : World) : Prop :=
  ∃ a' cap' rs, r = .returned (.tuple #[.agg #[.slice a' (compR xs).length cap'], vioV (firstV xs)]) ∧ OwnShs w' w.heap.size 43 47 (.slice a' (compR xs).length cap') (compR xs).length rs (compR xs) ∧ Below w.heap.size w w'
theorem compR_ok {xs : List Shp} (h : (firstV xs).1 = 0) : compR xs = compS xs := if_pos h
theorem compR_bad {xs : List Shp} (h : ¬ (firstV xs).1 = 0) : compR xs = [] := if_neg h
theorem implCompile_any (a : Option Addr) (cap n : Nat) (xs : List Shp) (w : World) (h : ShsL w a xs) (hx : xs.length = n) (hn : n ≤ 1048576) (hcap : n ≤ cap) (hm : fldSum xs ≤ 1048576) :
    Calls Try.prog 8 #[.agg #[.slice a n cap]] w (FreshCmp w xs) := by
  by_cases hv : (firstV xs).1 = 0
  · have hz := firstV_zero hv
    refine (implCompile_ok a cap n xs w h hx hcap hm hz).mono ?_
    rintro r w' ⟨a', cap', rs, rfl, ho, hb⟩
    have hl : (compR xs).length = n := by rw [compR_ok hv, compS_len, hx]
    exact ⟨a', cap', rs, by rw [hl, hz]; rfl, by rw [hl, compR_ok hv]; exact ho, hb⟩
  · refine (implCompile_bad a cap n xs w h hx hn hcap hm hv).mono ?_
    rintro r w' ⟨rfl, hb⟩
    exact ⟨none, 0, [], by rw [compR_bad hv]; rfl, by rw [compR_bad hv]; exact OwnShs.nil _ _ _ _, hb⟩
end Go.Proofs.Ytbpilecgnfnndaa

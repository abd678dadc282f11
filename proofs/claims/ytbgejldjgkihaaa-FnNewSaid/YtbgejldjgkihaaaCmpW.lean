/- A description compiled: the reference's walk. -/
import Derived.Test.YtbgejldjgkihaaaCmp
namespace Go.Proofs.Ytbgejldjgkihaaa
set_option linter.unusedSimpArgs false
set_option linter.unusedVariables false
open Go.ChangeShapes Go.WideShapes Go.ChangeAt Go.RowKit Go.BigFrame

theorem made_zeros {n : Nat} (h : n ≤ 6) : (madeCells (Value.agg #[.int .i64 0, .slice none 0 0]).cells (n * 2)).toList = (List.replicate n (⟨0, none, 0, 0⟩ : ShR)).flatMap ShR.cs := by
  have : n = 0 ∨ n = 1 ∨ n = 2 ∨ n = 3 ∨ n = 4 ∨ n = 5 ∨ n = 6 := by omega
  rcases this with rfl | rfl | rfl | rfl | rfl | rfl | rfl <;> simp [madeCells, List.replicate_succ, ShR.cs, Value.cells, List.range_succ]
theorem info_ShapeC : (Try.prog.info? 43).map (fun i => (i.zero, i.size, i.bytes)) = some (some (.agg #[.int .i64 0, .slice none 0 0]), 2, 32) := by kernel_rfl
theorem Cells.setCell {l : List (Addr × Value)} {w : World} (h : Cells l w) {p : Addr} (hp : ∀ q ∈ l, p.block ≠ q.1.block) (v : Value) : Cells l (w.setCell p v) := fun q hq => by rw [World.cell?_setCell_far _ _ _ _ (hp q hq)]; exact h q hq
theorem results_cell2 {fn : Func} {p q : Tmp} {ty tq : TypeId} (h : fn.results = #[.cell p ty, .cell q tq]) {tmps : Array Value} {a b : Addr} (hp : tmps.getD p undef = .pointer (some a)) (hq : tmps.getD q undef = .pointer (some b)) {P : Program} {w : World} {v u : Value} (hv : (loadVar ty a).run P w = .ok v w) (hu : (loadVar tq b).run P w = .ok u w) : (results fn tmps).run P w = .ok (.tuple #[v, u]) w := by
  have hp' : tmps[p]?.getD undef = .pointer (some a) := by simpa using hp
  have hq' : tmps[q]?.getD undef = .pointer (some b) := by simpa using hq
  simp only [results, h]
  simp [Sem.run_bind, Result.andThen, hp', hq', asAddr, hv, hu]
set_option maxRecDepth 100000 in
set_option maxHeartbeats 4000000 in
theorem specCompile_ok (a : Option Addr) (cap n : Nat) (xs : List Shp) (w : World) (h : ShsL w a xs) (hl : xs.length = n) (hn : n ≤ 6) (hm : ∀ x ∈ xs, x.flds.length ≤ 900) (hms : fldSum xs ≤ 1048576) (hv : firstV xs = (0, 0, 0)) :
    Calls Try.prog 35 #[.agg #[.slice a n cap]] w fun r w' => ∃ a' cap' rs, r = .returned (.tuple #[.agg #[.slice a' n cap'], .agg #[.int .i64 0, .int .i64 0, .int .i64 0]]) ∧ OwnShs w' w.heap.size 43 47 (.slice a' n cap') n rs (compS xs) ∧ Below w.heap.size w w' := by
  have HL := Lib.hid hl; clear hl
  have HH := Lib.hid h; clear h
  have HV := Lib.hid hv; clear hv
  have HM := Lib.hid hm; clear hm
  obtain ⟨R, hR⟩ : ∃ R, compS xs = R := ⟨_, rfl⟩
  rw [hR]
  have HR := Lib.hid (show cgo xs (List.replicate n ⟨0, []⟩) (xs.drop 0) = R by rw [← hR, compS, HL.out]; rfl); clear hR
  obtain ⟨i0, hi, iz0, iz1, iz2⟩ := info_parts info_ShapeC
  go_enter Try.func35, Try.ntmps35
  go_wp2_with fail
  refine (specFirst_any a cap n xs _ (HH.out.keep (by ((repeat (first | (with_reducible exact Below.refl _ _) | (with_reducible assumption) | (with_reducible refine Below.alloc ?_ ?_ _) | (with_reducible refine Below.setCell ?_ ?_ _) | (with_reducible refine Below.drew ?_) | (with_reducible refine below_setRow ?_ ?_ _) | (refine Below.trans ?_ (Below.mono (by assumption) ?_)))); all_goals (first | omega | (simp; done) | (simp; omega))))) HL.out (by omega) hms).mono ?_
  rintro r w1 ⟨rfl, hb1⟩
  rw [HV.out]
  have hA1 := (hb1.block w.heap.size (by simp; omega)).trans (hset_alloc (hset_alloc (hset_new (o := .cells #[.slice a n cap] 26) rfl)))
  have hS1 := (hb1.block (w.heap.size + 1) (by simp)).trans (hset_alloc (hset_new (o := .cells #[.slice none 0 0] 30) (by simp)))
  have hV1 := (hb1.block (w.heap.size + 1 + 1) (by simp)).trans (hset_new (o := .cells #[.int .i64 0, .int .i64 0, .int .i64 0] 32) (by simp))
  have hbw1 : Below w.heap.size w w1 := by ((repeat (first | (with_reducible exact Below.refl _ _) | (with_reducible assumption) | (with_reducible refine Below.alloc ?_ ?_ _) | (with_reducible refine Below.setCell ?_ ?_ _) | (with_reducible refine Below.drew ?_) | (with_reducible refine below_setRow ?_ ?_ _) | (refine Below.trans ?_ (Below.mono (by assumption) ?_)))); all_goals (first | omega | (simp; done) | (simp; omega)))
  have hz1 := hb1.size
  simp only [World.size_alloc] at hz1
  clear hb1
  have kA := box_cells hA1 0; have hlA := box_lt hA1; have hlS := box_lt hS1; have hlV := box_lt hV1
  simp only [List.getElem?_toArray, List.getElem?_cons_zero] at kA
  have HA1 := Lib.hid hA1; have HS1 := Lib.hid hS1; have HV1 := Lib.hid hV1; clear hA1 hS1 hV1
  unfold vioV
  go_wp2_with (first | (at_make; refine wpList_make_full _ rfl _ _ 28 rfl (w1.heap.size + 1) 43 i0 _ 2 Try.underlying28 hi iz0 iz1 .i64 .i64 _ _ n rfl rfl rfl rfl (by rw [iz2]; omega) (by unfold maxLen; omega) (by simp) ?_; intro w2 hown hgrow; have hb2 : Below (w1.heap.size + 1) (w1.alloc (.cells #[.int .i64 0, .int .i64 0, .int .i64 0] 32)) w2 := (Below.refl _ _).grown hgrow (by simp) (by simp); clear hgrow; rw [made_zeros hn] at hown; simp only [World.size_alloc] at hown; have HO2 := Lib.hid (OwnShs.zeros (TF := 47) hown); clear hown; have hz2 := hb2.size; simp only [World.size_alloc] at hz2; simp only [World.size_alloc]))
  have hz2' : w1.heap.size + 1 < w2.heap.size := (HO2.out.outer.lt (w1.heap.size + 1) rfl).2
  have hA2 := (hb2.block w.heap.size (by omega)).trans (hset_alloc HA1.out)
  have hS2 := (hb2.block (w.heap.size + 1) (by omega)).trans (hset_alloc HS1.out)
  have hV2 := (hb2.block (w.heap.size + 1 + 1) (by omega)).trans (hset_alloc HV1.out)
  have hv2 := (hb2.block w1.heap.size (by omega)).trans (hset_new (o := .cells #[.int .i64 0, .int .i64 0, .int .i64 0] 32) rfl)
  have hbw2 : Below w.heap.size w w2 := (hbw1.alloc (by omega) _).trans (hb2.mono (by omega))
  clear hb2 kA
  have HA2 := Lib.hid hA2; have HS2 := Lib.hid hS2; have HV2 := Lib.hid hV2; have Hv2 := Lib.hid hv2; clear hA2 hS2 hV2 hv2 HA1 HS1 HV1
  go_loopw [6] (fun i wr => ∃ k : Nat, k ≤ n ∧ i = .int .i64 k ∧ (∃ rs ys, OwnShs wr (w1.heap.size + 1) 43 47 (.slice (some ⟨w1.heap.size + 1, 0, none⟩) n n) n rs ys ∧ Hid (cgo xs ys (xs.drop k) = R)) ∧ wr.heap[w.heap.size]? = some (.cells #[.slice a n cap] 26 (0, 0)) ∧ wr.heap[w.heap.size + 1]? = some (.cells #[.slice none 0 0] 30 (0, 0)) ∧ wr.heap[w.heap.size + 1 + 1]? = some (.cells #[.int .i64 0, .int .i64 0, .int .i64 0] 32 (0, 0)) ∧ wr.heap[w1.heap.size]? = some (.cells #[.int .i64 0, .int .i64 0, .int .i64 0] 32 (0, 0)) ∧ wr.heap[w2.heap.size]? = some (.cells #[.slice (some ⟨w1.heap.size + 1, 0, none⟩) n n] 30 (0, 0)) ∧ Below w.heap.size w wr) (fun i _ => n - (intOf i).toNat)
  case atStart => exact ⟨0, Nat.zero_le _, rfl, ⟨_, _, OwnShs.alloc HO2.out _, HR⟩, hset_alloc HA2.out, hset_alloc HS2.out, hset_alloc HV2.out, hset_alloc Hv2.out, hset_new rfl, hbw2.alloc hbw2.size _⟩
  case round =>
    obtain ⟨k, hk, rfl, ⟨rs, ys, ho, HK⟩, hA, hS, hV, hv, hO, hb⟩ := hrel
    have kA := box_cells hA 0; have kO := box_cells hO 0; have hlA := box_lt hA; have hlO := box_lt hO; have hlS := box_lt hS; have hlV := box_lt hV; have hlv := box_lt hv
    simp only [List.getElem?_toArray, List.getElem?_cons_zero] at kA kO
    have HO := Lib.hid ho; have HA := Lib.hid hA; have HSx := Lib.hid hS; have HVx := Lib.hid hV; have Hvx := Lib.hid hv; have HOx := Lib.hid hO; clear ho hA hS hV hv hO
    by_cases hlt : k < n
    · obtain ⟨x, hx, hxm⟩ := at_lt (xs := xs) (k := k) (by rw [HL.out]; exact hlt)
      have hfl : x.flds.length ≤ 900 := HM.out x hxm
      obtain ⟨b, off, a', cap', rfl, hbl, c0, c1, hfs, hcp⟩ := (HH.out.keep hb) k x hx
      have HX := Lib.hid hx; clear hx
      have HF := Lib.hid hfs; clear hfs
      have HXM := Lib.hid hxm; clear hxm
      obtain ⟨O, hO'⟩ : ∃ O, cflds xs [] x.flds = O := ⟨_, rfl⟩
      have HCO := Lib.hid (show cflds xs [] (x.flds.drop 0) = O from hO'); 
      have HK2 := Lib.hid (show cgo xs (ys.set (rankS xs x.id) ⟨x.id, O⟩) (xs.drop (k + 1)) = R by rw [← hO']; exact g_step HK.out HX.out); clear hO'
      go_wp2_with fail
      obtain ⟨wq, hwq⟩ : ∃ wq : World, wq = wr := ⟨_, rfl⟩
      subst hwq
      go_loopw [8] (fun j wi => ∃ q : Nat, q ≤ x.flds.length ∧ j = .int .i64 q ∧ (∃ af cf l, wi.heap[wq.heap.size]? = some (.cells #[.int .i64 x.id, .slice af q cf] 43 (0, 0)) ∧ wi.ownsRow (wq.heap.size + 1) 47 5 (.slice af q cf) q (l.flatMap Fld.cs) ∧ Hid (cflds xs l (x.flds.drop q) = O)) ∧ Below wq.heap.size wq wi) (fun j _ => x.flds.length - (intOf j).toNat)
      case atStart => exact ⟨0, Nat.zero_le _, rfl, ⟨none, 0, [], hset_new rfl, World.ownsRow_nil _ _ _ _, HCO⟩, (Below.refl _ _).alloc (Nat.le_refl _) _⟩
      case round =>
        obtain ⟨q, hq, rfl, ⟨af, cf, l, hX, hw, HQ⟩, hbi⟩ := hrel
        obtain ⟨wi, hwi⟩ : ∃ wi : World, wi = wr := ⟨_, rfl⟩
        subst hwi
        have hA1 := (hbi.block _ hlA).trans HA.out
        have hO1 := (hbi.block _ hlO).trans HOx.out
        have c1i := (hbi.cell (p := ⟨b, off + k * 2 + 1, none⟩) hbl).trans c1
        have hbwi : Below w.heap.size w wi := hb.trans (hbi.mono hb.size)
        have hzi := hbi.size
        clear kA kO c0 c1
        have kA := box_cells hA1 0; have hlAi := box_lt hA1; have kO := box_cells hO1 0; have hlOi := box_lt hO1
        have kX0 := box_cells hX 0; have kX1 := box_cells hX 1; have fX := box_frozen hX; have hlX := box_lt hX
        simp only [List.getElem?_toArray, List.getElem?_cons_zero, List.getElem?_cons_succ] at kA kO kX0 kX1
        have HXb := Lib.hid hX; have HW := Lib.hid hw; have HA1 := Lib.hid hA1; have HO1 := Lib.hid hO1; clear hX hw hA1 hO1
        by_cases hlq : q < x.flds.length
        · obtain ⟨f, hf, _⟩ := at_lt (xs := x.flds) (k := q) hlq
          obtain ⟨b2, off2, rfl, hbl2, d0, d1, d2, d3, d4⟩ := Flds.at (Sl.keep HF.out hbi) hf
          have HQ2 := Lib.hid (c_step HQ.out hf)
          clear hf
          obtain ⟨fn, fk, fr, fp, fm⟩ := f
          simp only at d0 d1 d2 d3 d4
          by_cases h8 : fk = 8
          · have hCF : cfld xs ⟨fn, fk, fr, fp, fm⟩ = ⟨fn, fk, fr, fp, (rankS xs fm : Nat)⟩ := by simp only [cfld]; rw [if_pos h8]
            rw [hCF] at HQ2
            clear hCF
            have h8' : (fk == 8) = true := by simp [h8]
            clear h8
            go_wp2_with fail
            refine (l8Rank_any (some ⟨b, off, none⟩) cap n xs fm _ (HH.out.keep (by ((repeat (first | (with_reducible exact Below.refl _ _) | (with_reducible assumption) | (with_reducible refine Below.alloc ?_ ?_ _) | (with_reducible refine Below.setCell ?_ ?_ _) | (with_reducible refine Below.drew ?_) | (with_reducible refine below_setRow ?_ ?_ _) | (refine Below.trans ?_ (Below.mono (by assumption) ?_)))); all_goals (first | omega | (simp; done) | (simp; omega))))).shs HL.out (by omega)).mono ?_
            rintro r w3 ⟨rfl, hb3⟩
            have hX3 := (hb3.block wq.heap.size (by simp; omega)).trans (hset_alloc (hset_alloc HXb.out))
            have hG3 := (hb3.block (wi.heap.size + 1) (by simp)).trans (hset_new (o := .cells #[.int .i64 fn, .int .i64 fk, .bool fr, .bool fp, .int .i64 (-1)] 47) (by simp))
            have hbG : Below wi.heap.size wi (w3.setCell ⟨wi.heap.size + 1, 4, none⟩ (.int .i64 (rankS xs fm : Nat))) := by ((repeat (first | (with_reducible exact Below.refl _ _) | (with_reducible assumption) | (with_reducible refine Below.alloc ?_ ?_ _) | (with_reducible refine Below.setCell ?_ ?_ _) | (with_reducible refine Below.drew ?_) | (with_reducible refine below_setRow ?_ ?_ _) | (refine Below.trans ?_ (Below.mono (by assumption) ?_)))); all_goals (first | omega | (simp; done) | (simp; omega)))
            have hz3 := hb3.size
            simp only [World.size_alloc] at hz3
            clear kX0 kX1 fX hb3 kA kO d0 d1 d2 d3 d4
            have kX0 := box_cells hX3 0; have kX1 := box_cells hX3 1; have kG := box_cells hG3; have fG := box_frozen hG3; have fX := box_frozen hX3
            simp only [List.getElem?_toArray, List.getElem?_cons_zero, List.getElem?_cons_succ] at kX0 kX1
            have HX3 := Lib.hid hX3; have HG3 := Lib.hid hG3; clear hX3 hG3
            go_wp2_with fail
            refine (l8Put_own ⟨fn, fk, fr, fp, (rankS xs fm : Nat)⟩ _ (owns_below HW.out hbG (Nat.le_refl _)) (by omega)).mono ?_
            rintro r w4 ⟨a4, cap4, rfl, hown4, hb4⟩
            have hX4 := (hb4.block wq.heap.size (by simp; omega)).trans (hset_other HX3.out (by simp; omega))
            have hz4 := hb4.size
            simp only [World.size_alloc, World.size_setCell] at hz4
            have hbq : Below wq.heap.size wq (w4.setCell ⟨wq.heap.size, 1, none⟩ (.slice a4 (q + 1) cap4)) := (hbi.trans ((hbG.mono hzi).trans (hb4.mono (by simp; omega)))).setCell (by simp) _
            have HO4 := Lib.hid (owns_set (own_mono hown4 (show wq.heap.size + 1 ≤ _ by simp; omega)) (p := ⟨wq.heap.size, 1, none⟩) (by simp) (.slice a4 (q + 1) cap4)); clear hown4
            clear kX0 kX1 fX
            have kX0 := box_cells hX4 0; have kX1 := box_cells hX4 1; have fX := box_frozen hX4
            simp only [List.getElem?_toArray, List.getElem?_cons_zero, List.getElem?_cons_succ] at kX0 kX1
            have HX4 := Lib.hid hX4; clear hX4 hb4 hbG
            go_wp2_with fail
            go_roundw
            case rel =>
              refine ⟨q + 1, by omega, by go_num, ⟨a4, cap4, _, ?_, HO4.out, HQ2⟩, hbq⟩
              apply hset_eq (hset_set HX4.out); simp only [List.setIfInBounds_toArray, List.set_cons_zero, List.set_cons_succ]
            case measure => simp [intOf]; omega
          · have hCF : cfld xs ⟨fn, fk, fr, fp, fm⟩ = ⟨fn, fk, fr, fp, -1⟩ := by simp only [cfld]; rw [if_neg h8]
            rw [hCF] at HQ2
            clear hCF
            have h8' : (fk == 8) = false := by simp [h8]
            clear h8
            have hbG : Below wi.heap.size wi ((wi.alloc (.cells #[.int .i64 fn, .int .i64 fk, .bool fr, .bool fp, .int .i64 fm] 45)).alloc (.cells #[.int .i64 fn, .int .i64 fk, .bool fr, .bool fp, .int .i64 (-1)] 47)) := by ((repeat (first | (with_reducible exact Below.refl _ _) | (with_reducible assumption) | (with_reducible refine Below.alloc ?_ ?_ _) | (with_reducible refine Below.setCell ?_ ?_ _) | (with_reducible refine Below.drew ?_) | (with_reducible refine below_setRow ?_ ?_ _) | (refine Below.trans ?_ (Below.mono (by assumption) ?_)))); all_goals (first | omega | (simp; done) | (simp; omega)))
            go_wp2_with fail
            refine (l8Put_own ⟨fn, fk, fr, fp, -1⟩ _ (owns_below HW.out hbG (Nat.le_refl _)) (by omega)).mono ?_
            rintro r w4 ⟨a4, cap4, rfl, hown4, hb4⟩
            have hX4 := (hb4.block wq.heap.size (by simp; omega)).trans (hset_alloc (hset_alloc HXb.out))
            have hz4 := hb4.size
            simp only [World.size_alloc, World.size_setCell] at hz4
            have hbq : Below wq.heap.size wq (w4.setCell ⟨wq.heap.size, 1, none⟩ (.slice a4 (q + 1) cap4)) := (hbi.trans ((hbG.mono hzi).trans (hb4.mono (by simp; omega)))).setCell (by simp) _
            have HO4 := Lib.hid (owns_set (own_mono hown4 (show wq.heap.size + 1 ≤ _ by simp; omega)) (p := ⟨wq.heap.size, 1, none⟩) (by simp) (.slice a4 (q + 1) cap4)); clear hown4
            clear kX0 kX1 fX
            have kX0 := box_cells hX4 0; have kX1 := box_cells hX4 1; have fX := box_frozen hX4
            simp only [List.getElem?_toArray, List.getElem?_cons_zero, List.getElem?_cons_succ] at kX0 kX1
            have HX4 := Lib.hid hX4; clear hX4 hb4 hbG
            go_wp2_with fail
            go_roundw
            case rel =>
              refine ⟨q + 1, by omega, by go_num, ⟨a4, cap4, _, ?_, HO4.out, HQ2⟩, hbq⟩
              apply hset_eq (hset_set HX4.out); simp only [List.setIfInBounds_toArray, List.set_cons_zero, List.set_cons_succ]
            case measure => simp [intOf]; omega
        · obtain rfl : q = x.flds.length := by omega
          have hlO2 := c_end HQ.out (Nat.le_refl _)
          subst hlO2
          have hrk : rankS xs x.id < n := by have := rank_lt HXM.out; rw [HL.out] at this; exact this
          have hrow : RowIs wi (w1.heap.size + 1) 47 ⟨x.id, af, x.flds.length, cf⟩ ⟨x.id, l⟩ := ⟨rfl, (by have := HW.out.1; rw [flatMap_len fld_len] at this; show x.flds.length = l.length; omega), own_mono HW.out (by omega)⟩
          have hapt : ∀ (i : Nat) (s : ShR), i ≠ rankS xs x.id → rs[i]? = some s → ∀ b, (Value.slice s.a s.n s.cap).ownBlock = some b → (Value.slice af x.flds.length cf).ownBlock ≠ some b := by
            intro i s _ hs b hb0 hb1
            obtain ⟨y, hy, -⟩ := at_lt (xs := ys) (k := i) (by rw [HO.out.lenx, ← HO.out.len]; exact (List.getElem?_eq_some_iff.1 hs).1)
            have h1 := (HO.out.each i s y hs hy).2.2.lt b hb0
            have h2 := HW.out.lt b hb1
            omega
          have HRW := Lib.hid hrow; have HAP := Lib.hid hapt; clear hrow hapt
          have HOS := Lib.hid (HO.out.below hbi (Nat.le_refl _))
          go_wp2_with fail
          refine wp_region_till (Cells [(⟨w2.heap.size, 0, none⟩, .slice (some ⟨w1.heap.size + 1, 0, none⟩) n n), (⟨w.heap.size, 0, none⟩, .slice (some ⟨b, off, none⟩) n cap), (⟨wq.heap.size, 0, none⟩, .int .i64 x.id), (⟨wq.heap.size, 1, none⟩, .slice af x.flds.length cf)]) (fun i => decide (8 ≤ i)) (by kernel_rfl) ?_
          have hS : Cells [(⟨w2.heap.size, 0, none⟩, .slice (some ⟨w1.heap.size + 1, 0, none⟩) n n), (⟨w.heap.size, 0, none⟩, .slice (some ⟨b, off, none⟩) n cap), (⟨wq.heap.size, 0, none⟩, .int .i64 x.id), (⟨wq.heap.size, 1, none⟩, .slice af x.flds.length cf)] wi.drew := cells_mk kO (cells_mk kA (cells_mk kX0 (cells_mk kX1 (cells_no _))))
          refine wpTill_take (i := 0) (v := ?v0_1) rfl (by kernel_rfl) (by kernel_rfl) (by kernel_rfl) (by kernel_rfl) (fun _ _ _ h => h) (Or.inl ⟨by rfl, ?y0_1⟩) hS ?r0_1
          case y0_1 => (intro wq hq; (try simp only [cells_cons, cells_nil, and_true] at hq); first | (go_simp; done) | (go_simp; with_reducible rfl) | (obtain ⟨hq1, hq2⟩ := hq; go_simp; with_reducible rfl))
          try simp only [List.getElem_toArray, List.getElem_cons_succ, List.getElem_cons_zero, Act.put, List.setIfInBounds_toArray, List.set_cons_zero, List.set_cons_succ]
          refine wpTill_take (i := 1) (v := ?v1_2) rfl (by kernel_rfl) (by kernel_rfl) (by kernel_rfl) (by kernel_rfl) (fun _ _ _ h => h) (Or.inl ⟨by rfl, ?y1_2⟩) hS ?r1_2
          case y1_2 => (intro wq hq; (try simp only [cells_cons, cells_nil, and_true] at hq); first | (go_simp; done) | (go_simp; with_reducible rfl) | (obtain ⟨hq1, hq2⟩ := hq; go_simp; with_reducible rfl))
          try simp only [List.getElem_toArray, List.getElem_cons_succ, List.getElem_cons_zero, Act.put, List.setIfInBounds_toArray, List.set_cons_zero, List.set_cons_succ]
          refine wpTill_take (i := 2) (v := ?v2_3) rfl (by kernel_rfl) (by kernel_rfl) (by kernel_rfl) (by kernel_rfl) (fun _ _ _ h => h) (Or.inl ⟨by rfl, ?y2_3⟩) hS ?r2_3
          case y2_3 => (intro wq hq; (try simp only [cells_cons, cells_nil, and_true] at hq); first | (go_simp; done) | (go_simp; with_reducible rfl) | (obtain ⟨hq1, hq2⟩ := hq; go_simp; with_reducible rfl))
          try simp only [List.getElem_toArray, List.getElem_cons_succ, List.getElem_cons_zero, Act.put, List.setIfInBounds_toArray, List.set_cons_zero, List.set_cons_succ]
          refine wpTill_take (i := 3) (v := ?v3_4) rfl (by kernel_rfl) (by kernel_rfl) (by kernel_rfl) (by kernel_rfl) (fun _ _ _ h => h) (Or.inl ⟨by rfl, ?y3_4⟩) hS ?r3_4
          case y3_4 => (intro wq hq; (try simp only [cells_cons, cells_nil, and_true] at hq); first | (go_simp; done) | (go_simp; with_reducible rfl) | (obtain ⟨hq1, hq2⟩ := hq; go_simp; with_reducible rfl))
          try simp only [List.getElem_toArray, List.getElem_cons_succ, List.getElem_cons_zero, Act.put, List.setIfInBounds_toArray, List.set_cons_zero, List.set_cons_succ]
          refine wpTill_take (i := 4) (v := ?v4_5) rfl (by kernel_rfl) (by kernel_rfl) (by kernel_rfl) (by kernel_rfl) (fun _ _ _ h => h) (Or.inl ⟨by rfl, ?y4_5⟩) hS ?r4_5
          case y4_5 => (intro wq hq; (try simp only [cells_cons, cells_nil, and_true] at hq); first | (go_simp; done) | (go_simp; with_reducible rfl) | (obtain ⟨hq1, hq2⟩ := hq; go_simp; with_reducible rfl))
          try simp only [List.getElem_toArray, List.getElem_cons_succ, List.getElem_cons_zero, Act.put, List.setIfInBounds_toArray, List.set_cons_zero, List.set_cons_succ]
          refine wpTill_take (i := 6) (v := ?v6_6) rfl (by kernel_rfl) (by kernel_rfl) (by kernel_rfl) (by kernel_rfl) (fun _ _ _ h => h) (Or.inl ⟨by rfl, ?y6_6⟩) hS ?r6_6
          case y6_6 => (intro wq hq; (try simp only [cells_cons, cells_nil, and_true] at hq); first | (go_simp; done) | (go_simp; with_reducible rfl) | (obtain ⟨hq1, hq2⟩ := hq; go_simp; with_reducible rfl))
          try simp only [List.getElem_toArray, List.getElem_cons_succ, List.getElem_cons_zero, Act.put, List.setIfInBounds_toArray, List.set_cons_zero, List.set_cons_succ]
          refine wpTill_op (i := 5) (by kernel_rfl) rfl (fun K hK => ?_)
          go_simp
          refine (l8Rank_any (some ⟨b, off, none⟩) cap n xs x.id _ (HH.out.keep (by ((repeat (first | (with_reducible exact Below.refl _ _) | (with_reducible assumption) | (with_reducible refine Below.alloc ?_ ?_ _) | (with_reducible refine Below.setCell ?_ ?_ _) | (with_reducible refine Below.drew ?_) | (with_reducible refine below_setRow ?_ ?_ _) | (refine Below.trans ?_ (Below.mono (by assumption) ?_)))); all_goals (first | omega | (simp; done) | (simp; omega))))).shs HL.out (by omega)).mono ?_
          rintro r w3 ⟨rfl, hb3⟩
          refine hK.out _ _ (fun _ => hS.below hb3) ?_
          have hS3 := hS.below hb3; clear hS; have hS := hS3; clear hS3
          clear hK K
          try simp only [List.getElem_toArray, List.getElem_cons_succ, List.getElem_cons_zero, Act.put, List.setIfInBounds_toArray, List.set_cons_zero, List.set_cons_succ]
          have HOS3 := HOS.out.below (w' := w3) (B := wi.heap.size) (by ((repeat (first | (with_reducible exact Below.refl _ _) | (with_reducible assumption) | (with_reducible refine Below.alloc ?_ ?_ _) | (with_reducible refine Below.setCell ?_ ?_ _) | (with_reducible refine Below.drew ?_) | (with_reducible refine below_setRow ?_ ?_ _) | (refine Below.trans ?_ (Below.mono (by assumption) ?_)))); all_goals (first | omega | (simp; done) | (simp; omega)))) (Nat.le_refl _)
          have HRW3 := Lib.hid (HRW.out.below (w' := w3) (B := wi.heap.size) (by ((repeat (first | (with_reducible exact Below.refl _ _) | (with_reducible assumption) | (with_reducible refine Below.alloc ?_ ?_ _) | (with_reducible refine Below.setCell ?_ ?_ _) | (with_reducible refine Below.drew ?_) | (with_reducible refine below_setRow ?_ ?_ _) | (refine Below.trans ?_ (Below.mono (by assumption) ?_)))); all_goals (first | omega | (simp; done) | (simp; omega)))) (Nat.le_refl _))
          have hb3w : Below wi.heap.size wi w3 := by ((repeat (first | (with_reducible exact Below.refl _ _) | (with_reducible assumption) | (with_reducible refine Below.alloc ?_ ?_ _) | (with_reducible refine Below.setCell ?_ ?_ _) | (with_reducible refine Below.drew ?_) | (with_reducible refine below_setRow ?_ ?_ _) | (refine Below.trans ?_ (Below.mono (by assumption) ?_)))); all_goals (first | omega | (simp; done) | (simp; omega)))
          obtain ⟨u0, e0⟩ := owns_some HOS3.outer (rankS xs x.id * 2) (by omega)
          obtain ⟨u1, e1⟩ := owns_some HOS3.outer (rankS xs x.id * 2 + 1) (by omega)
          have hfz : ∀ j, w3.frozen? ⟨w1.heap.size + 1, j, none⟩ = false := HOS3.outer.frozenAt
          have HOS3 := Lib.hid HOS3
          refine wpTill_take (i := 7) (v := ?v7_7) rfl (by kernel_rfl) (by kernel_rfl) (by kernel_rfl) (by kernel_rfl) (fun _ _ _ h => h) (Or.inl ⟨by rfl, ?y7_7⟩) hS ?r7_7
          case y7_7 => (intro wq hq; (try simp only [cells_cons, cells_nil, and_true] at hq); first | (go_simp; done) | (go_simp; with_reducible rfl) | (obtain ⟨hq1, hq2⟩ := hq; go_simp; with_reducible rfl))
          try simp only [List.getElem_toArray, List.getElem_cons_succ, List.getElem_cons_zero, Act.put, List.setIfInBounds_toArray, List.set_cons_zero, List.set_cons_succ]
          refine wpTill_op (i := 8) (by kernel_rfl) rfl (fun K hK => ?_)
          go_simp
          refine hK.out _ _ (fun e => by cases e) ?_
          clear hK K
          refine wpTill_done (by kernel_rfl) ?_ _
          have HST := Lib.hid (HOS3.out.storeAt (by decide) hrk HRW3.out HAP.out)
          have hbx : Below wq.heap.size wq w3 := hbi.trans (hb3w.mono hzi)
          have hbf : Below w.heap.size w w3 := hb.trans (hbx.mono hb.size)
          clear HOS3 HRW3 HAP HOS HRW e0 e1 hfz
          go_wp2_with fail
          go_roundw
          case rel =>
            exact ⟨k + 1, by omega, by go_num, ⟨_, _, HST.out, HK2⟩, hset_other (hset_other ((hbx.block _ hlA).trans HA.out) (by simp; omega)) (by simp; omega), hset_other (hset_other ((hbx.block _ hlS).trans HSx.out) (by simp; omega)) (by simp; omega), hset_other (hset_other ((hbx.block _ hlV).trans HVx.out) (by simp; omega)) (by simp; omega), hset_other (hset_other ((hbx.block _ hlv).trans Hvx.out) (by simp)) (by simp), hset_other (hset_other ((hbx.block _ hlO).trans HOx.out) (by simp; omega)) (by simp; omega), (hbf.setCell (by simp; omega) _).setCell (by simp; omega) _⟩
          case measure => simp [intOf]; omega
    · have hRe := g_end HK.out (by rw [HL.out]; omega)
      have hS2 := box_cells HSx.out; have fS2 := box_frozen HSx.out; have kV := box_cells HVx.out; have fV := box_frozen HVx.out; have kv := box_cells Hvx.out
      have kv0 := kv 0; have kv1 := kv 1; have kv2 := kv 2
      simp only [List.getElem?_toArray, List.getElem?_cons_zero, List.getElem?_cons_succ] at kv0 kv1 kv2
      clear kv
      go_wp2_with fail
      have fin : ∀ W : World, W.heap[w.heap.size + 1]? = some (.cells #[.slice (some ⟨w1.heap.size + 1, 0, none⟩) n n] 30 (0, 0)) → W.heap[w.heap.size + 1 + 1]? = some (.cells #[.int .i64 0, .int .i64 0, .int .i64 0] 32 (0, 0)) → OwnShs W w.heap.size 43 47 (.slice (some ⟨w1.heap.size + 1, 0, none⟩) n n) n rs R → Below w.heap.size w W → ∀ (tm : Array Value), tm.getD 2 undef = .pointer (some ⟨w.heap.size + 1, 0, none⟩) → tm.getD 3 undef = .pointer (some ⟨w.heap.size + 1 + 1, 0, none⟩) →
          bodyPost Try.prog Try.f35 (fun r w' => ∃ a' cap' rs, r = .returned (.tuple #[.agg #[.slice a' n cap'], .agg #[.int .i64 0, .int .i64 0, .int .i64 0]]) ∧ OwnShs w' w.heap.size 43 47 (.slice a' n cap') n rs R ∧ Below w.heap.size w w') .ret ⟨tm, []⟩ W := by
        intro W h1 h2 h3 h4 tm t1 t2
        exact bodyPost_ret (results_cell2 Try.results35 t1 t2 (run_loadVar_mid W (w.heap.size + 1) 0 30 [.slice (some ⟨w1.heap.size + 1, 0, none⟩) n n] _ (range_of_box h1) Try.underlying30 rfl (by kernel_rfl)) (run_loadVar_mid W (w.heap.size + 1 + 1) 0 32 [.int .i64 0, .int .i64 0, .int .i64 0] _ (range_of_box h2) Try.underlying32 rfl (by kernel_rfl))) rfl ⟨_, _, _, rfl, h3, h4⟩
      refine wp_region_till (Cells [(⟨w2.heap.size, 0, none⟩, .slice (some ⟨w1.heap.size + 1, 0, none⟩) n n), (⟨w1.heap.size, 0, none⟩, .int .i64 0), (⟨w1.heap.size, 1, none⟩, .int .i64 0), (⟨w1.heap.size, 2, none⟩, .int .i64 0)]) (fun _ => false) (by kernel_rfl) ?_
      have hS : Cells [(⟨w2.heap.size, 0, none⟩, .slice (some ⟨w1.heap.size + 1, 0, none⟩) n n), (⟨w1.heap.size, 0, none⟩, .int .i64 0), (⟨w1.heap.size, 1, none⟩, .int .i64 0), (⟨w1.heap.size, 2, none⟩, .int .i64 0)] wr.drew := cells_mk kO (cells_mk kv0 (cells_mk kv1 (cells_mk kv2 (cells_no _))))
      refine wpTill_take (i := 0) (v := ?v0_8) rfl (by kernel_rfl) (by kernel_rfl) (by kernel_rfl) (by kernel_rfl) (fun _ _ _ h => h) (Or.inl ⟨by rfl, ?y0_8⟩) hS ?r0_8
      case y0_8 => (intro wq hq; (try simp only [cells_cons, cells_nil, and_true] at hq); first | (go_simp; done) | (go_simp; with_reducible rfl) | (obtain ⟨hq1, hq2⟩ := hq; go_simp; with_reducible rfl))
      try simp only [List.getElem_toArray, List.getElem_cons_succ, List.getElem_cons_zero, Act.put, List.setIfInBounds_toArray, List.set_cons_zero, List.set_cons_succ]
      refine wpTill_take (i := 1) (v := ?v1_9) rfl (by kernel_rfl) (by kernel_rfl) (by kernel_rfl) (by kernel_rfl) (fun _ _ _ h => h) (Or.inl ⟨by rfl, ?y1_9⟩) hS ?r1_9
      case y1_9 => (intro wq hq; (try simp only [cells_cons, cells_nil, and_true] at hq); first | (go_simp; done) | (go_simp; with_reducible rfl) | (obtain ⟨hq1, hq2⟩ := hq; go_simp; with_reducible rfl))
      try simp only [List.getElem_toArray, List.getElem_cons_succ, List.getElem_cons_zero, Act.put, List.setIfInBounds_toArray, List.set_cons_zero, List.set_cons_succ]
      refine wpTill_op (i := 2) (by kernel_rfl) rfl (fun K hK => ?_)
      go_simp
      have hS1 := (hS.setCell (p := ⟨w.heap.size + 1, 0, none⟩) (by intro q hq; simp only [List.mem_cons, List.not_mem_nil, or_false] at hq; rcases hq with rfl | rfl | rfl | rfl <;> (simp; try omega)) (.slice (some ⟨w1.heap.size + 1, 0, none⟩) n n)).drew
      refine hK.out _ _ (fun _ => hS1) ?_
      clear hK K
      try simp only [Act.put, List.setIfInBounds_toArray, List.set_cons_zero, List.set_cons_succ]
      refine wpTill_op (i := 3) (by kernel_rfl) rfl (fun K hK => ?_)
      go_simp
      refine hK.out _ _ (fun _ => (((hS1.setCell (p := ⟨w.heap.size + 1 + 1, 0, none⟩) (by intro q hq; simp only [List.mem_cons, List.not_mem_nil, or_false] at hq; rcases hq with rfl | rfl | rfl | rfl <;> (simp; try omega)) (.int .i64 0)).setCell (p := ⟨w.heap.size + 1 + 1, 1, none⟩) (by intro q hq; simp only [List.mem_cons, List.not_mem_nil, or_false] at hq; rcases hq with rfl | rfl | rfl | rfl <;> (simp; try omega)) (.int .i64 0)).setCell (p := ⟨w.heap.size + 1 + 1, 2, none⟩) (by intro q hq; simp only [List.mem_cons, List.not_mem_nil, or_false] at hq; rcases hq with rfl | rfl | rfl | rfl <;> (simp; try omega)) (.int .i64 0)).drew) ?_
      clear hK K
      refine wpTill_done (by kernel_rfl) ?_ _
      go_wp2
      refine fin _ ?_ ?_ ?_ ?_ _ rfl rfl
      · exact hset_drew (hset_other (hset_other (hset_other (hset_same HSx.out rfl) (by simp)) (by simp)) (by simp))
      · apply hset_drew
        apply hset_eq (hset_set (hset_set (hset_set (hset_other HVx.out (by simp)))))
        simp only [List.setIfInBounds_toArray, List.set_cons_zero, List.set_cons_succ]
      · rw [← hRe]
        exact (((((HO.out.set (by simp; omega) _).set (by simp; omega) _).set (by simp; omega) _).set (by simp; omega) _).drew).le (by omega)
      · exact ((((hb.setCell (by simp) _).setCell (by simp; omega) _).setCell (by simp; omega) _).setCell (by simp; omega) _).drew
end Go.Proofs.Ytbgejldjgkihaaa

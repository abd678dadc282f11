/- Texts that FnRawText leans on, part 6. (Put together by wip/tools/bundle.py.) -/
import Derived.Laws.Bits128
import Derived.Deep.RegionHeld
import Derived.Test.YtbjbgneiglopmaaGreatDoorFnRT1
import Derived.Test.YtbjbgneiglopmaaGreatDoorFnRT2
import Derived.Test.YtbjbgneiglopmaaGreatDoorFnRT3
import Derived.Test.YtbjbgneiglopmaaGreatDoorFnRT4
import Derived.Test.YtbjbgneiglopmaaGreatDoorFnRT5
namespace Go.Proofs.YtbjbgneiglopmaaGreatDoor
set_option linter.unusedSimpArgs false
set_option linter.unusedVariables false
open Go.ChangeShapes Go.WideShapes Go.ChangeAt Go.RowKit Go.BigFrame
theorem implCut_any (x : List UInt8) (w : World) (hw : TxtW w) (hx : x.length ≤ 1048576) :
    Calls Tryz.prog 21 #[.string ⟨x.toArray⟩, .string ⟨#[58]⟩] w fun r w' => r = .returned (.tuple #[.string ⟨(Lib.cut x [58]).1.toArray⟩, .string ⟨(Lib.cut x [58]).2.1.toArray⟩, .bool (Lib.cut x [58]).2.2]) ∧ Below w.heap.size w w' := by
  obtain ⟨m, hm⟩ := hw.max
  refine (Tryz.strings_Cut ⟨x.toArray⟩ ⟨#[58]⟩ m w (by simp [ByteArray.size]; omega) hm).mono ?_
  rintro r w' ⟨rfl, n, rfl⟩
  exact ⟨rfl, ⟨rfl, rfl, rfl, Nat.le_refl _, fun _ _ => rfl⟩⟩
theorem msgI_take {ws : List (List UInt8)} {k : Nat} {x : List UInt8} (hx : ws[k]? = some x) : (ws.take (k + 1)).map msgI = (ws.take k).map msgI ++ [msgI x] := by
  rw [List.take_add_one, hx]; simp
theorem readI_take {ws : List (List UInt8)} {k : Nat} {x : List UInt8} (hx : ws[k]? = some x) : ((ws.take (k + 1)).map fun t => (readI t).1).flatMap Fld.cs = ((ws.take k).map fun t => (readI t).1).flatMap Fld.cs ++ (readI x).1.cs := by
  rw [List.take_add_one, hx]; simp
set_option maxRecDepth 100000 in
set_option maxHeartbeats 8000000 in
theorem implReadRaw_any (s : ByteArray) (w : World) (hw : TxtW w) (hs : s.size ≤ 1048576) :
    Calls Tryz.prog 6 #[.string s] w (FreshRd w (rawI (bL s)).1.length (rawI (bL s)).1 (rawI (bL s)).2) := by
  have HW := Lib.hid hw; clear hw
  obtain ⟨⟨RX, RB⟩, hR⟩ : ∃ R, rawI (bL s) = R := ⟨_, rfl⟩
  rw [hR]
  have HR := Lib.hid hR; clear hR
  simp only
  by_cases h0 : s.size = 0
  · have hl0 : bL s = [] := List.length_eq_zero_iff.1 (by rw [bL_len]; exact h0)
    have hz : (RX, RB) = ([], true) := by rw [← HR.out, rawI, if_pos hl0]
    simp only [Prod.mk.injEq] at hz
    obtain ⟨rfl, rfl⟩ := hz
    have hse : s.toList = [] := by rw [ByteArray.toList_eq]; exact List.length_eq_zero_iff.1 (by rw [Array.length_toList]; exact h0)
    clear HR h0 hl0
    go_enter Tryz.func6, Tryz.ntmps6
    go_wp2_with fail
    refine bodyPost_ret (v := .tuple #[.agg #[.slice none 0 0], .bool true]) (by simp [results, Tryz.results6, go_sem]) rfl ⟨none, 0, [], rfl, OwnShs.nil _ _ _ _, by ((repeat (first | (with_reducible exact Below.refl _ _) | (with_reducible assumption) | (with_reducible refine Below.alloc ?_ ?_ _) | (with_reducible refine Below.setCell ?_ ?_ _) | (with_reducible refine Below.drew ?_) | (with_reducible refine below_setRow ?_ ?_ _) | (refine Below.trans ?_ (Below.mono (by assumption) ?_)))); all_goals (first | omega | (simp; done) | (simp; omega)))⟩
  · have hl0 : bL s ≠ [] := fun e => h0 (by rw [← bL_len, e]; rfl)
    have hse : ¬ s.toList = [] := by
      rw [ByteArray.toList_eq]; intro e
      have := congrArg List.length e
      rw [Array.length_toList] at this
      exact h0 this
    have hse2 : s.toList.isEmpty = false := by simpa using hse
    obtain ⟨ws, hws⟩ : ∃ ws, splitL 7 (bL s) 59 = ws := ⟨_, rfl⟩
    have hwl : ws.length ≤ 7 := by rw [← hws]; exact splitL_num (by omega)
    have hwx : ∀ x ∈ ws, x.length ≤ 1048576 := by
      rw [← hws]; intro x hx
      have := splitL_le hx
      rw [bL_len] at this; omega
    have hRR : (RX, RB) = if rawTextL (ws.map msgI) = bL s then (ws.map msgI, true) else ([], false) := by rw [← HR.out, rawI, if_neg hl0, hws]
    have hsz : fldSum (ws.map msgI) ≤ 1048576 := by rw [← hws]; exact (rawsI_size _).2
    have hparts : ∀ W : World, TxtW W → Calls Tryz.prog 20 #[.string s, .string ⟨#[59]⟩, .int .i64 7] W (FreshStrs W ws) := fun W hW => by
      have := implSplit_any s 59 7 W hW hs (by omega) (by omega)
      rw [hws] at this; exact this
    have HRR := Lib.hid hRR; have HWX := Lib.hid hwx; clear hRR HR hwx hws h0 hl0
    obtain ⟨n, hn⟩ : ∃ n, ws.length = n := ⟨_, rfl⟩
    have hn7 : n ≤ 7 := by omega
    obtain ⟨i0, hi, hF0, hF1, hF2⟩ := info_parts info_RrF
    obtain ⟨i1, hj, hj0, hj1, hj2⟩ := info_parts info_RrM
    go_enter Tryz.func6, Tryz.ntmps6
    go_wp2_with fail
    refine (hparts _ (HW.out.keep (by ((repeat (first | (with_reducible exact Below.refl _ _) | (with_reducible assumption) | (with_reducible refine Below.alloc ?_ ?_ _) | (with_reducible refine Below.setCell ?_ ?_ _) | (with_reducible refine Below.drew ?_) | (with_reducible refine below_setRow ?_ ?_ _) | (refine Below.trans ?_ (Below.mono (by assumption) ?_)))); all_goals (first | omega | (simp; done) | (simp; omega)))))).mono ?_
    rintro r w1 ⟨g, cap, rfl, ho, hb1⟩
    have hz1' := hb1.size
    simp only [World.size_alloc] at hz1' ho
    have hR_ : w1.heap[w.heap.size]? = some (.cells #[.slice none 0 0] 24 (0, 0)) := (hb1.block _ (by simp; omega)).trans (hset_alloc (hset_new rfl))
    have hO_ : w1.heap[w.heap.size + 1]? = some (.cells #[.slice none 0 0] 24 (0, 0)) := (hb1.block _ (by simp)).trans (hset_new (by simp))
    have hbw : Below w.heap.size w w1 := (((Below.refl _ _).alloc (Nat.le_refl _) _).alloc (by simp) _).trans (hb1.mono (by simp; omega))
    rw [hn] at ho ⊢
    have HN := Lib.hid hn
    clear hb1 hparts
    go_wp2_with fail
    go_loopw [24] (fun i wr => ∃ k : Nat, k ≤ n ∧ i = .int .i64 k ∧ (∃ v rs, OwnShs wr (w.heap.size + 1 + 1) 40 44 v k rs ((ws.take k).map msgI) ∧ wr.heap[w.heap.size + 1]? = some (.cells #[v] 24 (0, 0))) ∧ wr.heap[w.heap.size]? = some (.cells #[.slice none 0 0] 24 (0, 0)) ∧ wr.ownsRow (w.heap.size + 1 + 1) 9 1 (.slice (some ⟨g, 0, none⟩) n cap) n (strRowP ws) ∧ Below w.heap.size w wr) (fun i _ => n - (intOf i).toNat)
    case atStart => exact ⟨0, Nat.zero_le _, rfl, ⟨.slice none 0 0, [], OwnShs.nil _ _ _ _, hO_⟩, hR_, ho, hbw⟩
    case round =>
      clear hO_ hR_ ho hbw
      obtain ⟨k, hk, rfl, ⟨v, rs, ho, hO⟩, hR, hrow, hb⟩ := hrel
      have hz := hb.size
      have hOl := box_lt hO
      have kO := box_cells hO 0; have fO := box_frozen hO 0; have kR := box_cells hR 0; have fR := box_frozen hR 0
      simp only [List.getElem?_toArray, List.getElem?_cons_zero] at kO kR
      have HO := Lib.hid ho; have HOx := Lib.hid hO; have HRx := Lib.hid hR; have HWS := Lib.hid hrow; clear ho hO hR hrow
      by_cases hlt : k < n
      · obtain ⟨x, hx, hxm⟩ := at_lt (xs := ws) (k := k) (by rw [HN.out]; exact hlt)
        have hgl := (HWS.out.lt g rfl).2
        have c0 : wr.cell? ⟨g, k, none⟩ = some (.string ⟨x.toArray⟩) := own_cell HWS.out hx
        have hxl := HWX.out x hxm
        obtain ⟨wo, hwo⟩ : ∃ wo : World, wo = wr := ⟨_, rfl⟩
        rw [← hwo] at HO HOx HRx HWS hb hz hOl kO fO kR fR hgl c0 ⊢
        clear hwo
        have HXk := Lib.hid hx; clear hx hxm
        obtain ⟨⟨a, b, c⟩, hab⟩ : ∃ R, Lib.cut x [58] = R := ⟨_, rfl⟩
        have hcut : ∀ W : World, TxtW W → Calls Tryz.prog 21 #[.string ⟨x.toArray⟩, .string ⟨#[58]⟩] W fun r w' => r = .returned (.tuple #[.string ⟨a.toArray⟩, .string ⟨b.toArray⟩, .bool c]) ∧ Below W.heap.size W w' := fun W hW => by
          have := implCut_any x W hW hxl
          rw [hab] at this; exact this
        have hle := cut_le x
        rw [hab] at hle
        obtain ⟨hal, hbl⟩ : a.length ≤ 1048576 ∧ b.length ≤ 1048576 := ⟨Nat.le_trans hle.1 hxl, Nat.le_trans hle.2 hxl⟩
        have hmsg : msgI x = ⟨numD a, (wordsI b).map fun t => (readI t).1⟩ := by rw [msgI, hab]
        obtain ⟨id, hid⟩ : ∃ id, numD a = id := ⟨_, rfl⟩
        have hnum : ∀ W : World, TxtW W → Calls Tryz.prog 22 #[.string ⟨a.toArray⟩] W fun r w' => r = .returned (.tuple #[.int .i64 id, .bool (numUpto 999999999 a).isSome]) ∧ Below W.heap.size W w' := fun W hW => by
          have := implNumber_any ⟨a.toArray⟩ W hW.num (by simp [ByteArray.size]; omega)
          rw [← hid]; exact this
        rw [hid] at hmsg
        have HMS := Lib.hid hmsg
        clear hmsg hab hle hid
        have hlc : (k : Int) < (n : Int) := by omega
        go_wp2_with fail
        refine (hcut _ (HW.out.keep hb)).mono ?_
        rintro r w2 ⟨rfl, hb2⟩
        have hT2 : Below w.heap.size w w2 := hb.trans (hb2.mono hz)
        go_wp2_with fail
        refine (hnum _ (HW.out.keep hT2)).mono ?_
        rintro r w3 ⟨rfl, hb3⟩
        have hT3 : Below w.heap.size w w3 := hT2.trans (hb3.mono hT2.size)
        have hb03 : Below wo.heap.size wo w3 := hb2.trans (hb3.mono hb2.size)
        have hz3 := hb03.size
        have hR3 := (hb03.block w.heap.size (by omega)).trans HRx.out
        have hO3 := (hb03.block (w.heap.size + 1) hOl).trans HOx.out
        have HR3 := Lib.hid hR3; have HO3 := Lib.hid hO3
        have HS3 := Lib.hid (HO.out.below hb03 (Nat.le_refl _)); have HW3 := Lib.hid (owns_below HWS.out hb03 (Nat.le_refl _))
        obtain ⟨M, hM⟩ : ∃ M, w3.heap.size = M := ⟨_, rfl⟩
        clear hR3 hO3 hb2 hb3 hcut hnum c0 kO fO kR fR HOx HRx HO HWS hgl
        have hOM : w.heap.size + 1 < M := by omega
        by_cases hbe : b = []
        · have e4 : b.isEmpty = true := by rw [hbe]; rfl
          have hE : wordsI b = [] := by rw [wordsI, if_pos hbe]
          have HEm := Lib.hid (show msgI x = ⟨id, []⟩ by rw [HMS.out, hE]; rfl)
          clear hE hbe
          go_upto_region 17 with fail
          obtain ⟨wi, hwi⟩ : ∃ wi, w3.alloc (.cells #[.int .i64 id, .slice none 0 0] 40) = wi := ⟨_, rfl⟩
          have hbi : Below M w3 wi := by rw [← hwi]; exact (Below.refl _ _).alloc (Nat.le_of_eq hM.symm) _
          have hMi : wi.heap[M]? = some (.cells #[.int .i64 id, .slice none 0 0] 40 (0, 0)) := by rw [← hwi]; exact hset_new hM.symm
          have HVi : Hid (wi.ownsRow (M + 1) 44 5 (.slice none 0 0) 0 (([] : List Fld).flatMap Fld.cs)) := Lib.hid (World.ownsRow_nil _ _ _ _)
          have kM := box_cells hMi; have fM := box_frozen hMi; have hMl := box_lt hMi
          have HMi := Lib.hid hMi; clear hMi
          rw [hwi]
          clear hwi
          have hOi := (hbi.block (w.heap.size + 1) (by omega)).trans HO3.out
          have hRi := (hbi.block w.heap.size (by omega)).trans HR3.out
          have kO := box_cells hOi 0; have fO := box_frozen hOi 0; have lO := box_lt hOi
          simp only [List.getElem?_toArray, List.getElem?_cons_zero] at kO
          have HOi := Lib.hid hOi; have HRi := Lib.hid hRi; clear hOi hRi
          have HSi := Lib.hid (HS3.out.below hbi (Nat.le_of_eq hM))
          have HRow := Lib.hid (show RowIs wi (w.heap.size + 1 + 1) 44 ⟨id, none, 0, 0⟩ (msgI x) from by rw [HEm.out]; exact ⟨rfl, rfl, owns_le HVi.out (by omega)⟩)
          have HAP := Lib.hid (fresh_apart (r := ⟨id, none, 0, 0⟩) HS3.out (show w3.heap.size ≤ M + 1 by omega) HVi.out)
          have HWwi := Lib.hid (owns_below HW3.out hbi (Nat.le_of_eq hM))
          have hTi : Below w.heap.size w wi := hT3.trans (hbi.mono (by omega))
          go_wp2_with (first | (at_builtin; refine wpList_append_own _ rfl _ _ 22 rfl (w.heap.size + 1 + 1) 40 i1 _ 2 32 Tryz.underlying22 hj hj0 hj1 hj2 rfl (by decide) v k (rs.flatMap ShR.cs) rfl (HSi.out.alloc _).outer ⟨wi.heap.size, 0, none⟩ 1 1 [.int .i64 id, .slice none 0 0] rfl rfl (World.news_of_block (cs := #[.int .i64 id, .slice none 0 0]) (t := 40) (fr := (0, 0)) (hset_new rfl)) (by simp [Value.oneCell']) (by unfold maxLen; omega) (by omega) (by simp; omega) ?_; intro v2 w6 hown2 hgr2 _; obtain ⟨a5, cap5, rfl, _⟩ := own_sh hown2; have hsz2 := hgr2.size; simp only [World.size_alloc] at hsz2; have HP := Lib.hid ((HSi.out.alloc _).push (w' := w6) (by decide) (HRow.out.alloc _) HAP.out hown2 hgr2); have hO6 := (hgr2.block (w.heap.size + 1) (by simp; omega) (fun e => by have := (HSi.out.outer.lt _ e.symm).1; omega)).trans (hset_alloc HOi.out); have kO6 := box_cells hO6 0; have fO6 := box_frozen hO6 0; have lO6 := box_lt hO6; simp only [List.getElem?_toArray, List.getElem?_cons_zero] at kO6; have HO6 := Lib.hid hO6; have HG6 := Lib.hid hgr2; clear hO6 hown2 hgr2 kO fO))
          have hR6 := (HG6.out.block w.heap.size (by simp; omega) (fun e => by have := (HSi.out.outer.lt _ e.symm).1; omega)).trans (hset_alloc HRi.out)
          have hB6 : Below w.heap.size w w6 := below_grown (hTi.alloc (by omega) _) HG6.out (fun g e => by have := (HSi.out.outer.lt g e).1; omega) (by simp; omega)
          have HWw := Lib.hid (owns_keep (owns_below HWwi.out (show Below wi.heap.size wi (wi.alloc (.cells #[.int .i64 id, .slice none 0 0] 40)) from (Below.refl _ _).alloc (Nat.le_refl _) _) (Nat.le_refl _)) HG6.out (other_own (HSi.out.alloc _).outer (by decide)))
          go_roundw
          case rel =>
            refine ⟨k + 1, by omega, by go_num, ⟨.slice a5 (k + 1) cap5, rs ++ [⟨id, none, 0, 0⟩], ?_, ?_⟩, ?_, ?_, ?_⟩
            · rw [msgI_take HXk.out]; exact HP.out.set (by simp) _
            · exact hset_same HO6.out rfl
            · exact hset_other hR6 (by simp)
            · exact owns_keep HWw.out (only_set _ _ _ _) (other_box HO6.out (by decide))
            · exact hB6.setCell (by simp) _
          case measure => simp [intOf]; omega
        · have e4 : b.isEmpty = false := by simpa using hbe
          obtain ⟨E, hE⟩ : ∃ E, wordsI b = E := ⟨_, rfl⟩
          have hEs : splitL 9 b 44 = E := by rw [← hE, wordsI, if_neg hbe]
          have hE9 : E.length ≤ 9 := by rw [← hE]; exact wordsI_num b
          have hEx : ∀ y ∈ E, y.length ≤ 1048576 := fun y hy => by rw [← hE] at hy; exact Nat.le_trans (wordsI_le hy) hbl
          have HEm := Lib.hid (show msgI x = ⟨id, E.map fun t => (readI t).1⟩ by rw [HMS.out, hE])
          have HEX := Lib.hid hEx
          have hp4 : ∀ W : World, TxtW W → Calls Tryz.prog 20 #[.string ⟨b.toArray⟩, .string ⟨#[44]⟩, .int .i64 9] W (FreshStrs W E) := fun W hW => by
            have := implSplit_any ⟨b.toArray⟩ 44 9 W hW (by simp [ByteArray.size]; omega) (by omega) (by omega)
            rw [show bL (⟨b.toArray⟩ : ByteArray) = b by simp [bL], hEs] at this; exact this
          clear hE hEs hEx hbe
          have hbM : Below M w3 (w3.alloc (.cells #[.int .i64 id, .slice none 0 0] 40)) := (Below.refl _ _).alloc (Nat.le_of_eq hM.symm) _
          go_wp2_with fail
          refine (hp4 _ (HW.out.keep (hT3.trans (hbM.mono (by omega))))).mono ?_
          rintro r w4 ⟨g3, cap3, rfl, ho4, hb4⟩
          have hz4 := hb4.size
          simp only [World.size_alloc] at hz4 ho4
          have hM4 := (hb4.block M (by simp; omega)).trans (hset_new (o := .cells #[.int .i64 id, .slice none 0 0] 40 (0, 0)) hM.symm)
          have hB4 : Below M w3 w4 := hbM.trans (hb4.mono (by simp; omega))
          have hq4 := owns_le ho4 (show M + 1 ≤ w3.heap.size + 1 by omega)
          obtain ⟨nw, hnw⟩ : ∃ nw, E.length = nw := ⟨_, rfl⟩
          rw [hnw] at hq4 ⊢
          have HNW := Lib.hid hnw
          have hnw9 : nw ≤ 9 := by omega
          clear hb4 ho4 hp4 hbM
          go_wp2_with fail
          go_loopw [46] (fun j wi => ∃ q : Nat, q ≤ nw ∧ j = .int .i64 q ∧ (∃ v', wi.heap[M]? = some (.cells #[.int .i64 id, v'] 40 (0, 0)) ∧ wi.ownsRow (M + 1) 44 5 v' q (((E.take q).map fun t => (readI t).1).flatMap Fld.cs)) ∧ wi.ownsRow (M + 1) 9 1 (.slice (some ⟨g3, 0, none⟩) nw cap3) nw (strRowP E) ∧ Below M w3 wi ∧ M < wi.heap.size) (fun j _ => nw - (intOf j).toNat)
          case atStart => exact ⟨0, Nat.zero_le _, rfl, ⟨.slice none 0 0, hM4, World.ownsRow_nil _ _ _ _⟩, hq4, hB4, by omega⟩
          case round =>
            clear hM4 hq4 hB4
            obtain ⟨q, hq, rfl, ⟨v', hM', ho'⟩, hrow', hbi, hMl⟩ := hrel
            obtain ⟨wi, hwi⟩ : ∃ wi : World, wi = wr := ⟨_, rfl⟩
            rw [← hwi] at hM' ho' hrow' hbi hMl ⊢
            clear hwi
            have kM := box_cells hM'; have fM := box_frozen hM'
            have hzi := hbi.size
            have hg3 := (hrow'.lt g3 rfl).2
            have hg3M := (hrow'.lt g3 rfl).1
            have HMi := Lib.hid hM'; have HVi := Lib.hid ho'; have HWi := Lib.hid hrow'; clear hM' ho' hrow'
            by_cases hlq : q < nw
            · obtain ⟨y, hyq, hym⟩ := at_lt (xs := E) (k := q) (by rw [HNW.out]; exact hlq)
              have cy : wi.cell? ⟨g3, q, none⟩ = some (.string ⟨y.toArray⟩) := own_cell HWi.out hyq
              have hyl : y.length ≤ 1048576 := HEX.out y hym
              have HYq := Lib.hid hyq; clear hyq hym
              have hqn : (q : Int) < (nw : Int) := by omega
              obtain ⟨⟨f, okf⟩, hfr⟩ : ∃ R, readI y = R := ⟨_, rfl⟩
              have hrf : ∀ W : World, TxtW W → Calls Tryz.prog 23 #[.string ⟨y.toArray⟩] W fun r w' => r = .returned (.tuple #[f.val, .bool okf]) ∧ Below W.heap.size W w' := fun W hW => by
                have := implReadField_any ⟨y.toArray⟩ W hW (by simp [ByteArray.size]; omega)
                rw [show bL (⟨y.toArray⟩ : ByteArray) = y by simp [bL], hfr] at this; exact this
              have HFR := Lib.hid hfr; clear hfr
              obtain ⟨fn, fk, frp, fp, fm⟩ := f
              simp only [Fld.val] at hrf
              go_wp2_with fail
              refine (hrf _ (HW.out.keep (hT3.trans (hbi.mono (by omega))))).mono ?_
              rintro r w5 ⟨rfl, hb5⟩
              have hz5 := hb5.size
              have hM5 := (hb5.block M hMl).trans HMi.out
              have HV5 := Lib.hid (owns_below HVi.out hb5 (Nat.le_refl _)); have HW5 := Lib.hid (owns_below HWi.out hb5 (Nat.le_refl _))
              have hB5 : Below M w3 w5 := hbi.trans (hb5.mono (by omega))
              have kM := box_cells hM5; have fM := box_frozen hM5; have hMl5 := box_lt hM5
              have HM5 := Lib.hid hM5; clear hM5 hb5 cy hrf
              go_wp2_with (first | (at_builtin; refine wpList_append_own _ rfl _ _ 38 rfl (M + 1) 44 i0 _ 5 32 Tryz.underlying38 hi hF0 hF1 hF2 rfl (by decide) v' q (((E.take q).map fun t => (readI t).1).flatMap Fld.cs) rfl (owns_below HV5.out (show Below w5.heap.size w5 _ from by ((repeat (first | (with_reducible exact Below.refl _ _) | (with_reducible assumption) | (with_reducible refine Below.alloc ?_ ?_ _) | (with_reducible refine Below.setCell ?_ ?_ _) | (with_reducible refine Below.drew ?_) | (with_reducible refine below_setRow ?_ ?_ _) | (refine Below.trans ?_ (Below.mono (by assumption) ?_)))); all_goals (first | omega | (simp; done) | (simp; omega)))) (Nat.le_refl _)) ⟨w5.heap.size + 1, 0, none⟩ 1 1 [.int .i64 fn, .int .i64 fk, .bool frp, .bool fp, .int .i64 fm] rfl rfl (World.news_of_block (cs := #[.int .i64 fn, .int .i64 fk, .bool frp, .bool fp, .int .i64 fm]) (t := 44) (fr := (0, 0)) (hset_new (by simp))) (by simp [Value.oneCell']) (by unfold maxLen; omega) (by omega) (by simp; omega) ?_; intro v2 w6 hown2 hgr2 _; obtain ⟨a5, cap5, rfl, _⟩ := own_sh hown2; have hsz2 := hgr2.size; simp only [World.size_alloc] at hsz2; have hM6 := (hgr2.block M (by simp; omega) (fun e => by have := (HV5.out.lt _ e.symm).1; omega)).trans (hset_alloc (hset_alloc HM5.out)); have kM6 := box_cells hM6; have fM6 := box_frozen hM6; have hMl6 := box_lt hM6; have HM6 := Lib.hid hM6; clear hM6 kM fM; have HG6 := Lib.hid hgr2; have HV6 := Lib.hid hown2; clear hgr2 hown2))
              have hal : Below w5.heap.size w5 ((w5.alloc (.cells #[.int .i64 fn, .int .i64 fk, .bool frp, .bool fp, .int .i64 fm] 44)).alloc (.cells #[.int .i64 fn, .int .i64 fk, .bool frp, .bool fp, .int .i64 fm] 44)) := ((Below.refl _ _).alloc (Nat.le_refl _) _).alloc (by simp) _
              have HV5a := Lib.hid (owns_below HV5.out hal (Nat.le_refl _)); have HW5a := Lib.hid (owns_below HW5.out hal (Nat.le_refl _))
              have hB6 : Below M w3 w6 := below_grown (hB5.trans (hal.mono (by omega))) HG6.out (fun g e => by have := (HV5.out.lt g e).1; omega) (by simp; omega)
              clear hal
              go_roundw
              case rel =>
                refine ⟨q + 1, by omega, by go_num, ⟨.slice a5 (q + 1) cap5, ?_, ?_⟩, ?_, ?_, by simp; omega⟩
                · apply hset_eq (hset_set HM6.out); simp only [List.setIfInBounds_toArray, List.set_cons_zero, List.set_cons_succ]
                · rw [readI_take HYq.out, HFR.out]; exact owns_keep HV6.out (only_set _ _ _ _) (other_box HM6.out (by decide))
                · exact owns_keep (owns_keep HW5a.out HG6.out (other_own HV5a.out (by decide))) (only_set _ _ _ _) (other_box HM6.out (by decide))
                · exact hB6.setCell (Nat.le_refl _) _
              case measure => simp [intOf]; omega
            · obtain rfl : q = nw := by omega
              obtain ⟨a4, cap4, rfl, _⟩ := own_sh HVi.out
              have hOi := (hbi.block (w.heap.size + 1) (by omega)).trans HO3.out
              have hRi := (hbi.block w.heap.size (by omega)).trans HR3.out
              have kO := box_cells hOi 0; have fO := box_frozen hOi 0; have lO := box_lt hOi
              simp only [List.getElem?_toArray, List.getElem?_cons_zero] at kO
              have HOi := Lib.hid hOi; have HRi := Lib.hid hRi; clear hOi hRi
              have HSi := Lib.hid (HS3.out.below hbi (Nat.le_of_eq hM))
              have HRow := Lib.hid (show RowIs wi (w.heap.size + 1 + 1) 44 ⟨id, a4, q, cap4⟩ (msgI x) from by rw [HEm.out]; exact ⟨rfl, by rw [List.length_map, HNW.out], by have h0 := HVi.out; rw [List.take_of_length_le (by rw [HNW.out]; exact Nat.le_refl _)] at h0; exact owns_le h0 (by omega)⟩)
              have HAP := Lib.hid (fresh_apart (r := ⟨id, a4, q, cap4⟩) HS3.out (show w3.heap.size ≤ M + 1 by omega) HVi.out)
              have HWwi := Lib.hid (owns_below HW3.out hbi (Nat.le_of_eq hM))
              have hTi : Below w.heap.size w wi := hT3.trans (hbi.mono (by omega))
              go_wp2_with (first | (at_builtin; refine wpList_append_own _ rfl _ _ 22 rfl (w.heap.size + 1 + 1) 40 i1 _ 2 32 Tryz.underlying22 hj hj0 hj1 hj2 rfl (by decide) v k (rs.flatMap ShR.cs) rfl (HSi.out.alloc _).outer ⟨wi.heap.size, 0, none⟩ 1 1 [.int .i64 id, .slice a4 q cap4] rfl rfl (World.news_of_block (cs := #[.int .i64 id, .slice a4 q cap4]) (t := 40) (fr := (0, 0)) (hset_new rfl)) (by simp [Value.oneCell']) (by unfold maxLen; omega) (by omega) (by simp; omega) ?_; intro v2 w6 hown2 hgr2 _; obtain ⟨a5, cap5, rfl, _⟩ := own_sh hown2; have hsz2 := hgr2.size; simp only [World.size_alloc] at hsz2; have HP := Lib.hid ((HSi.out.alloc _).push (w' := w6) (by decide) (HRow.out.alloc _) HAP.out hown2 hgr2); have hO6 := (hgr2.block (w.heap.size + 1) (by simp; omega) (fun e => by have := (HSi.out.outer.lt _ e.symm).1; omega)).trans (hset_alloc HOi.out); have kO6 := box_cells hO6 0; have fO6 := box_frozen hO6 0; have lO6 := box_lt hO6; simp only [List.getElem?_toArray, List.getElem?_cons_zero] at kO6; have HO6 := Lib.hid hO6; have HG6 := Lib.hid hgr2; clear hO6 hown2 hgr2 kO fO))
              have hR6 := (HG6.out.block w.heap.size (by simp; omega) (fun e => by have := (HSi.out.outer.lt _ e.symm).1; omega)).trans (hset_alloc HRi.out)
              have hB6 : Below w.heap.size w w6 := below_grown (hTi.alloc (by omega) _) HG6.out (fun g e => by have := (HSi.out.outer.lt g e).1; omega) (by simp; omega)
              have HWw := Lib.hid (owns_keep (owns_below HWwi.out (show Below wi.heap.size wi (wi.alloc (.cells #[.int .i64 id, .slice a4 q cap4] 40)) from (Below.refl _ _).alloc (Nat.le_refl _) _) (Nat.le_refl _)) HG6.out (other_own (HSi.out.alloc _).outer (by decide)))
              go_roundw
              case rel =>
                refine ⟨k + 1, by omega, by go_num, ⟨.slice a5 (k + 1) cap5, rs ++ [⟨id, a4, q, cap4⟩], ?_, ?_⟩, ?_, ?_, ?_⟩
                · rw [msgI_take HXk.out]; exact HP.out.set (by simp) _
                · exact hset_same HO6.out rfl
                · exact hset_other hR6 (by simp)
                · exact owns_keep HWw.out (only_set _ _ _ _) (other_box HO6.out (by decide))
                · exact hB6.setCell (by simp) _
              case measure => simp [intOf]; omega
      · obtain rfl : k = n := by omega
        obtain ⟨a2, cap2, rfl, _⟩ := own_sh HO.out.outer
        obtain ⟨xs, hxs⟩ : ∃ xs, ws.map msgI = xs := ⟨_, rfl⟩
        have hO' : OwnShs wr (w.heap.size + 1 + 1) 40 44 (.slice a2 k cap2) k rs xs := by
          have := HO.out
          rw [List.take_of_length_le (by rw [HN.out]; exact Nat.le_refl _), hxs] at this; exact this
        rw [hxs] at HRR hsz
        have HX := Lib.hid hO'; clear hO' HO
        have hcp := own_lecapR HX.out.outer
        obtain ⟨G, hG⟩ : ∃ G, rawTextL xs = G := ⟨_, rfl⟩
        have hcall : ∀ W, ShsL W a2 xs → TabW W → Calls Tryz.prog 12 #[.agg #[.slice a2 k cap2]] W fun r w' => r = .returned (.string ⟨G.toArray⟩) ∧ Below W.heap.size W w' := fun W hW hT => by
          have := implRawText_any a2 cap2 k xs W hW HX.out.lenx (by omega) hcp hsz hT
          rw [sB, hG] at this; exact this
        go_wp2_with fail
        refine (hcall _ HX.out.shsL (HW.out.keep hb).num.tab).mono ?_
        rintro r w2 ⟨rfl, hb2⟩
        have hR2 := (hb2.block w.heap.size (by omega)).trans HRx.out
        have hO2 := (hb2.block (w.heap.size + 1) hOl).trans HOx.out
        have hT2 : Below w.heap.size w w2 := hb.trans (hb2.mono hz)
        have hs2 := OwnShs.below HX.out hb2 (Nat.le_refl _)
        have kO2 := box_cells hO2 0; have fO2 := box_frozen hO2 0; have kR2 := box_cells hR2 0; have fR2 := box_frozen hR2 0; have lR := box_lt hR2
        simp only [List.getElem?_toArray, List.getElem?_cons_zero] at kO2 kR2
        have HS2 := Lib.hid hs2; clear hs2 hcall kO fO kR fR hR2 hO2
        by_cases heq : G = bL s
        · have hRR2 : (RX, RB) = (xs, true) := by rw [HRR.out, if_pos (by rw [hG, heq])]
          simp only [Prod.mk.injEq] at hRR2
          obtain ⟨rfl, rfl⟩ := hRR2
          have e1 : ((⟨G.toArray⟩ : ByteArray).toList == s.toList) = true := by rw [heq, ← str_of_bL]; simp
          have e2 : (G == s.toList) = true := by rw [ByteArray.toList_eq, heq]; simp [bL]
          clear heq hG
          go_wp2_with fail
          rw [HX.out.lenx]
          refine bodyPost_ret (v := .tuple #[.agg #[.slice a2 k cap2], .bool true]) (by simp [results, Tryz.results6, go_sem, kR2, lR]) rfl ⟨a2, cap2, rs, rfl, OwnShs.le (HS2.out.set (p := ⟨w.heap.size, 0, none⟩) (by simp only; omega) _) (by omega), hT2.setCell (Nat.le_refl _) _⟩
        · have hRR2 : (RX, RB) = ([], false) := by rw [HRR.out, if_neg (by rw [hG]; exact heq)]
          simp only [Prod.mk.injEq] at hRR2
          obtain ⟨rfl, rfl⟩ := hRR2
          have e1 : ((⟨G.toArray⟩ : ByteArray).toList == s.toList) = false := by rw [beq_bytes, decide_eq_false]; intro e; apply heq; have := congrArg bL e; simpa [bL] using this
          have e2 : (G == s.toList) = false := by rw [ByteArray.toList_eq, beq_eq_false_iff_ne]; exact heq
          clear heq hG
          go_wp2_with fail
          refine bodyPost_ret (v := .tuple #[.agg #[.slice none 0 0], .bool false]) (by simp [results, Tryz.results6, go_sem, kR2, lR]) rfl ⟨none, 0, [], rfl, OwnShs.nil _ _ _ _, hT2.setCell (Nat.le_refl _) _⟩
theorem range_five {w : World} {B : Nat} {v0 v1 v2 v3 v4 : Value} (h : Cells [(⟨B, 0, none⟩, v0), (⟨B, 1, none⟩, v1), (⟨B, 2, none⟩, v2), (⟨B, 3, none⟩, v3), (⟨B, 4, none⟩, v4)] w) : w.rangeAt B 0 [v0, v1, v2, v3, v4] := by
  simp only [cells_cons, cells_nil, and_true] at h
  obtain ⟨h0, h1, h2, h3, h4⟩ := h
  intro j u hj
  rw [Nat.zero_add]
  match j, hj with
  | 0, hj => simp at hj; subst hj; exact h0
  | 1, hj => simp at hj; subst hj; exact h1
  | 2, hj => simp at hj; subst hj; exact h2
  | 3, hj => simp at hj; subst hj; exact h3
  | 4, hj => simp at hj; subst hj; exact h4
  | j + 5, hj => simp at hj
end Go.Proofs.YtbjbgneiglopmaaGreatDoor
namespace Go.Proofs.YtbjbgneiglopmaaGreatDoor
set_option linter.unusedSimpArgs false
set_option linter.unusedVariables false
open Go.ChangeShapes Go.WideShapes Go.ChangeAt Go.RowKit Go.BigFrame
end Go.Proofs.YtbjbgneiglopmaaGreatDoor
namespace Go.Proofs.YtbjbgneiglopmaaGreatDoor
set_option linter.unusedSimpArgs false
set_option linter.unusedVariables false
open Go.ChangeShapes Go.WideShapes Go.ChangeAt Go.RowKit Go.BigFrame
theorem own_box {w : World} {base n size : Nat} {t : TypeId} {v : Value} {L : List Value} (h : w.ownsRow base t size v n L) {g : Nat} (hg : v.ownBlock = some g) : ∃ cur, w.heap[g]? = some (.cells cur t (0, 0)) := by
  rcases h.2 with ⟨rfl, _⟩ | ⟨g', cap, cur, rfl, _, hh, _⟩
  · simp [Value.ownBlock] at hg
  · simp [Value.ownBlock] at hg; subst hg; exact ⟨cur, hh⟩
theorem own_at {w : World} {base n cap size g : Nat} {t : TypeId} {L : List Value} (h : w.ownsRow base t size (.slice (some ⟨g, 0, none⟩) n cap) n L) {j : Nat} {u : Value} (hj : L[j]? = some u) : w.cell? ⟨g, j, none⟩ = some u := by
  have := h.cells (g := g) rfl j u hj
  by_cases h0 : j = 0
  · subst h0; simpa [Addr.add] using this
  · simpa [Addr.add, h0] using this
theorem shr_setF : ∀ (rs : List ShR) (k : Nat) (r s : ShR), rs[k]? = some r → s.id = r.id → (rs.flatMap ShR.cs).set (k * 2 + 1) (.slice s.a s.n s.cap) = (rs.set k s).flatMap ShR.cs
  | [], k, r, s, h, _ => by simp at h
  | x :: rs, 0, r, s, h, hid => by
    simp at h; subst h
    simp [ShR.cs, hid]
  | x :: rs, k + 1, r, s, h, hid => by
    have ih := shr_setF rs k r s (by simpa using h) hid
    simp only [List.flatMap_cons, List.set_cons_succ, ShR.cs] at ih ⊢
    rw [show (k + 1) * 2 + 1 = (k * 2 + 1) + 1 + 1 by omega]
    simpa using ih
theorem shr_setId : ∀ (rs : List ShR) (k : Nat) (r s : ShR), rs[k]? = some r → s.a = r.a → s.n = r.n → s.cap = r.cap → (rs.flatMap ShR.cs).set (k * 2) (.int .i64 s.id) = (rs.set k s).flatMap ShR.cs
  | [], k, r, s, h, _, _, _ => by simp at h
  | x :: rs, 0, r, s, h, h1, h2, h3 => by
    simp at h; subst h
    simp [ShR.cs, h1, h2, h3]
  | x :: rs, k + 1, r, s, h, h1, h2, h3 => by
    have ih := shr_setId rs k r s (by simpa using h) h1 h2 h3
    simp only [List.flatMap_cons, List.set_cons_succ, ShR.cs] at ih ⊢
    rw [show (k + 1) * 2 = (k * 2) + 1 + 1 by omega]
    simpa using ih
section
variable {w w' : World} {base n q : Nat} {T TF : TypeId} {v : Value} {rs : List ShR} {xs : List Shp} {r : ShR} {x : Shp}
theorem OwnShs.outerNe (h : OwnShs w base T TF v n rs xs) (hne : T ≠ TF) (hr : rs[q]? = some r) (hx : xs[q]? = some x) {b : Nat} (hb : (Value.slice r.a r.n r.cap).ownBlock = some b) : v.ownBlock ≠ some b := by
  intro e
  obtain ⟨c1, h1⟩ := own_box h.outer e
  obtain ⟨c2, h2⟩ := own_box (h.each q r x hr hx).2.2 hb
  rw [h1] at h2
  simp at h2
  exact hne h2.2
theorem OwnShs.outerKept (h : OwnShs w base T TF v n rs xs) (hne : T ≠ TF) (hr : rs[q]? = some r) (hx : xs[q]? = some x) (hg : w.grownBy w' (Value.slice r.a r.n r.cap).ownBlock) : w'.ownsRow base T 2 v n (rs.flatMap ShR.cs) := by
  cases hb : (Value.slice r.a r.n r.cap).ownBlock with
  | none =>
    refine h.outer.kept hg ?_
    rw [hb]
    cases hv : v.ownBlock with
    | none => exact .inl rfl
    | some g => exact .inr (by simp)
  | some b => exact h.outer.kept hg (.inr (by rw [hb]; exact h.outerNe hne hr hx hb))
theorem OwnShs.eachKept (h : OwnShs w base T TF v n rs xs) (hr : rs[q]? = some r) (hg : w.grownBy w' (Value.slice r.a r.n r.cap).ownBlock) {i : Nat} {s : ShR} {y : Shp} (hi : i ≠ q) (hs : rs[i]? = some s) (hy : xs[i]? = some y) : RowIs w' base TF s y := by
  obtain ⟨e1, e2, e3⟩ := h.each i s y hs hy
  refine ⟨e1, e2, e3.kept hg ?_⟩
  cases hb : (Value.slice s.a s.n s.cap).ownBlock with
  | none => exact .inl rfl
  | some b => exact .inr (fun e => h.apart i q s r hs hr hi b hb e.symm)
theorem OwnShs.row (h : OwnShs w base T TF v n rs xs) (hne : T ≠ TF) (hr : rs[q]? = some r) (hx : xs[q]? = some x) (hg : w.grownBy w' (Value.slice r.a r.n r.cap).ownBlock) {fs : List Fld} (hl : r.n = fs.length) (ho : w'.ownsRow base TF 5 (.slice r.a r.n r.cap) r.n (fs.flatMap Fld.cs)) :
    OwnShs w' base T TF v n rs (xs.set q ⟨x.id, fs⟩) := by
  refine ⟨h.len, by simp [h.lenx], h.outerKept hne hr hx hg, ?_, h.apart⟩
  intro i s y hs hy
  by_cases hi : q = i
  · subst hi
    rw [List.getElem?_set_self (List.getElem?_eq_some_iff.1 hx).1] at hy
    simp at hy; subst hy
    rw [hr] at hs; simp at hs; subst hs
    exact ⟨(h.each q r x hr hx).1, hl, ho⟩
  · rw [List.getElem?_set_ne hi] at hy
    exact h.eachKept hr hg (Ne.symm hi) hs hy
theorem OwnShs.growAt {g cap : Nat} (h : OwnShs w base T TF (.slice (some ⟨g, 0, none⟩) n cap) n rs xs) (hne : T ≠ TF) (hr : rs[q]? = some r) (hx : xs[q]? = some x) (hg : w.grownBy w' (Value.slice r.a r.n r.cap).ownBlock) {a' : Option Addr} {m' cap' : Nat} {fs : List Fld}
    (hl : m' = fs.length) (ho : w'.ownsRow base TF 5 (.slice a' m' cap') m' (fs.flatMap Fld.cs)) (hat : ∀ b, (Value.slice a' m' cap').ownBlock = some b → (Value.slice r.a r.n r.cap).ownBlock = some b ∨ w.heap.size ≤ b) :
    OwnShs (w'.setCell ⟨g, q * 2 + 1, none⟩ (.slice a' m' cap')) base T TF (.slice (some ⟨g, 0, none⟩) n cap) n (rs.set q ⟨r.id, a', m', cap'⟩) (xs.set q ⟨x.id, fs⟩) := by
  have hout := h.outerKept hne hr hx hg
  have hst := hout.stored (q * 2 + 1) (.slice a' m' cap')
  have hgl := (h.outer.lt g rfl).2
  have far : ∀ {s : ShR} {y : Shp}, RowIs w' base TF s y → RowIs (w'.setCell ⟨g, q * 2 + 1, none⟩ (.slice a' m' cap')) base TF s y := by
    intro s y ⟨e1, e2, e3⟩
    refine ⟨e1, e2, e3.kept hst.2 (.inr ?_)⟩
    intro e
    obtain ⟨c1, h1⟩ := own_box hout (g := g) rfl
    obtain ⟨c2, h2⟩ := own_box e3 e
    rw [h1] at h2
    simp at h2
    exact hne h2.2
  have hq := (List.getElem?_eq_some_iff.1 hr).1
  refine ⟨by simp [h.len], by simp [h.lenx], ?_, ?_, ?_⟩
  · have := hst.1
    rw [shr_setF rs q r ⟨r.id, a', m', cap'⟩ hr rfl] at this
    exact this
  · intro i s y hs hy
    by_cases hi : q = i
    · subst hi
      rw [List.getElem?_set_self hq] at hs
      rw [List.getElem?_set_self (List.getElem?_eq_some_iff.1 hx).1] at hy
      simp at hs hy; subst hs; subst hy
      exact far ⟨(h.each q r x hr hx).1, hl, ho⟩
    · rw [List.getElem?_set_ne hi] at hs hy
      exact far (h.eachKept hr hg (Ne.symm hi) hs hy)
  · have key : ∀ {j : Nat} {t : ShR} {y : Shp}, j ≠ q → rs[j]? = some t → xs[j]? = some y → ∀ b, (Value.slice a' m' cap').ownBlock = some b → (Value.slice t.a t.n t.cap).ownBlock ≠ some b := by
      intro j t y hj ht hy b hb hb'
      rcases hat b hb with h1 | h1
      · exact h.apart j q t r ht hr hj b hb' h1
      · have := ((h.each j t y ht hy).2.2.lt b hb').2
        omega
    have some_ : ∀ {j : Nat} {t : ShR}, rs[j]? = some t → ∃ y, xs[j]? = some y := by
      intro j t ht
      have := (List.getElem?_eq_some_iff.1 ht).1
      rw [h.len, ← h.lenx] at this
      exact ⟨xs[j], List.getElem?_eq_getElem this⟩
    intro i j s t hs ht hij b hb hb'
    by_cases hi : q = i
    · subst hi
      rw [List.getElem?_set_self hq] at hs
      rw [List.getElem?_set_ne hij] at ht
      simp at hs; subst hs
      obtain ⟨y, hy⟩ := some_ ht
      exact key (Ne.symm hij) ht hy b hb hb'
    · rw [List.getElem?_set_ne hi] at hs
      by_cases hj : q = j
      · subst hj
        rw [List.getElem?_set_self hq] at ht
        simp at ht; subst ht
        obtain ⟨y, hy⟩ := some_ hs
        exact key hij hs hy b hb' hb
      · rw [List.getElem?_set_ne hj] at ht
        exact h.apart i j s t hs ht hij b hb hb'
theorem OwnShs.setId {g cap : Nat} (h : OwnShs w base T TF (.slice (some ⟨g, 0, none⟩) n cap) n rs xs) (hne : T ≠ TF) (hr : rs[q]? = some r) (hx : xs[q]? = some x) (i : Int) :
    OwnShs (w.setCell ⟨g, q * 2, none⟩ (.int .i64 i)) base T TF (.slice (some ⟨g, 0, none⟩) n cap) n (rs.set q ⟨i, r.a, r.n, r.cap⟩) (xs.set q ⟨i, x.flds⟩) := by
  have hst := h.outer.stored (q * 2) (.int .i64 i)
  have far : ∀ {s : ShR} {y : Shp}, RowIs w base TF s y → RowIs (w.setCell ⟨g, q * 2, none⟩ (.int .i64 i)) base TF s y := by
    intro s y ⟨e1, e2, e3⟩
    refine ⟨e1, e2, e3.kept hst.2 (.inr ?_)⟩
    intro e
    obtain ⟨c1, h1⟩ := own_box h.outer (g := g) rfl
    obtain ⟨c2, h2⟩ := own_box e3 e
    rw [h1] at h2
    simp at h2
    exact hne h2.2
  have hq := (List.getElem?_eq_some_iff.1 hr).1
  refine ⟨by simp [h.len], by simp [h.lenx], ?_, ?_, ?_⟩
  · have := hst.1
    rw [shr_setId rs q r ⟨i, r.a, r.n, r.cap⟩ hr rfl rfl rfl] at this
    exact this
  · intro j s y hs hy
    by_cases hj : q = j
    · subst hj
      rw [List.getElem?_set_self hq] at hs
      rw [List.getElem?_set_self (List.getElem?_eq_some_iff.1 hx).1] at hy
      simp at hs hy; subst hs; subst hy
      obtain ⟨-, e2, e3⟩ := h.each q r x hr hx
      exact far ⟨rfl, e2, e3⟩
    · rw [List.getElem?_set_ne hj] at hs hy
      exact far (h.each j s y hs hy)
  · have same : ∀ {j : Nat} {t : ShR}, (rs.set q ⟨i, r.a, r.n, r.cap⟩)[j]? = some t → ∃ t0, rs[j]? = some t0 ∧ t0.a = t.a ∧ t0.n = t.n ∧ t0.cap = t.cap := by
      intro j t ht
      by_cases hj : q = j
      · subst hj
        rw [List.getElem?_set_self hq] at ht
        simp at ht; subst ht
        exact ⟨r, hr, rfl, rfl, rfl⟩
      · rw [List.getElem?_set_ne hj] at ht
        exact ⟨t, ht, rfl, rfl, rfl⟩
    intro j k s t hs ht hjk b hb hb'
    obtain ⟨s0, hs0, e1, e2, e3⟩ := same hs
    obtain ⟨t0, ht0, f1, f2, f3⟩ := same ht
    exact h.apart j k s0 t0 hs0 ht0 hjk b (by rw [e1, e2, e3]; exact hb) (by rw [f1, f2, f3]; exact hb')
end
end Go.Proofs.YtbjbgneiglopmaaGreatDoor
namespace Go.Proofs.YtbjbgneiglopmaaGreatDoor
set_option linter.unusedSimpArgs false
set_option linter.unusedVariables false
open Go.ChangeShapes Go.WideShapes Go.ChangeAt Go.RowKit Go.BigFrame
@[go_sem] theorem i64_and255 (n : Int) : bits .and .i64 n 255 = n % 256 := by
  have h127 : (BitVec.ofInt 64 255).toNat = 2 ^ 8 - 1 := by decide
  have key : (BitVec.ofInt 64 n &&& BitVec.ofInt 64 255).toNat = (n % ((2 ^ 64 : Nat) : Int)).toNat % 2 ^ 8 := by
    rw [BitVec.toNat_and, BitVec.toNat_ofInt, h127, Nat.and_two_pow_sub_one_eq_mod]
  show IntKind.i64.wrap ((BitVec.ofInt 64 n &&& BitVec.ofInt 64 255).toNat : Nat) = n % 256
  rw [key, IntKind.wrap_i64]
  omega
@[go_sem] theorem i64_and30 (n : Int) : bits .and .i64 n 1073741823 = n % 1073741824 := by
  have h127 : (BitVec.ofInt 64 1073741823).toNat = 2 ^ 30 - 1 := by decide
  have key : (BitVec.ofInt 64 n &&& BitVec.ofInt 64 1073741823).toNat = (n % ((2 ^ 64 : Nat) : Int)).toNat % 2 ^ 30 := by
    rw [BitVec.toNat_and, BitVec.toNat_ofInt, h127, Nat.and_two_pow_sub_one_eq_mod]
  show IntKind.i64.wrap ((BitVec.ofInt 64 n &&& BitVec.ofInt 64 1073741823).toNat : Nat) = n % 1073741824
  rw [key, IntKind.wrap_i64]
  omega
def Oth (B : Nat) (w w' : World) : Prop := w.grownBy w' (some B)
theorem Oth.refl (B : Nat) (w : World) : Oth B w w := ⟨rfl, rfl, rfl, Nat.le_refl _, fun _ _ _ => rfl⟩
theorem Oth.size {B : Nat} {w w' : World} (h : Oth B w w') : w.heap.size ≤ w'.heap.size := World.grownBy.size h
theorem Oth.block {B : Nat} {w w' : World} (h : Oth B w w') {b : Nat} (hb : b < w.heap.size) (hn : b ≠ B) : w'.heap[b]? = w.heap[b]? := World.grownBy.block h b hb (by simpa using hn)
theorem Oth.trans {B : Nat} {w w1 w2 : World} (h : Oth B w w1) (k : Oth B w1 w2) : Oth B w w2 :=
  ⟨(World.grownBy.os k).trans (World.grownBy.os h), (World.grownBy.tape k).trans (World.grownBy.tape h), (World.grownBy.output k).trans (World.grownBy.output h), Nat.le_trans h.size k.size,
    fun b hb hn => (World.grownBy.block k b (Nat.lt_of_lt_of_le hb h.size) hn).trans (World.grownBy.block h b hb hn)⟩
theorem Oth.of_below {B : Nat} {w w' : World} (h : Below w.heap.size w w') : Oth B w w' := ⟨h.os, h.tape, h.output, h.size, fun b hb _ => h.block b hb⟩
theorem Oth.setCell {B o : Nat} {w w' : World} (h : Oth B w w') (v : Value) : Oth B w (w'.setCell ⟨B, o, none⟩ v) := by
  refine h.trans ⟨rfl, rfl, rfl, by simp, fun b hb hn => ?_⟩
  exact heap_setCell_other w' ⟨B, o, none⟩ b v (fun e => hn (by simp [e]))
theorem Oth.below {B n : Nat} {w w' : World} (h : Oth B w w') (hn : n ≤ B) (hs : B < w.heap.size) : Below n w w' :=
  ⟨World.grownBy.os h, World.grownBy.tape h, World.grownBy.output h, h.size, fun b hb => h.block (by omega) (by omega)⟩
def Bys (w : World) (B : Nat) (a : Option Addr) (n : Nat) : Prop := ∀ k, k < n → ∃ b off, a = some ⟨b, off, none⟩ ∧ b < B ∧ ∃ x : Int, 0 ≤ x ∧ x ≤ 255 ∧ w.cell? ⟨b, off + k, none⟩ = some (.int .u8 x)
theorem Bys.oth {w w' : World} {B n : Nat} {a : Option Addr} (h : Bys w B a n) (ho : Oth B w w') (hB : B ≤ w.heap.size) : Bys w' B a n := by
  intro k hk
  obtain ⟨b, off, e, hb, y, hy0, hy1, cy⟩ := h k hk
  refine ⟨b, off, e, hb, y, hy0, hy1, ?_⟩
  have := ho.block (b := b) (by omega) (by omega)
  exact (World.cell?_of_block (w := w) (a := ⟨b, off + k, none⟩) this).trans cy
def Cur (w : World) (B : Nat) : Prop := ∃ (a : Option Addr) (n cap i : Nat) (h : Int), w.heap[B]? = some (.cells #[.slice a n cap, .int .i64 i, .int .i64 h] 79 (0, 0)) ∧ i ≤ n ∧ n ≤ 1048576 ∧ Bys w B a n
theorem Cur.lt {w : World} {B : Nat} (h : Cur w B) : B < w.heap.size := by
  obtain ⟨a, n, cap, i, x, hh, _⟩ := h
  rcases Nat.lt_or_ge B w.heap.size with h | h
  · exact h
  · rw [Array.getElem?_eq_none h] at hh; simp at hh
def Drawn (B : Nat) (lo hi : Int) (w : World) (r : Ending) (w' : World) : Prop := ∃ x : Int, r = .returned (.int .i64 x) ∧ lo ≤ x ∧ x ≤ hi ∧ Cur w' B ∧ Oth B w w'
set_option maxHeartbeats 2000000 in
theorem l1Byte_any (B : Nat) (w : World) (hc : Cur w B) : Calls Tryz.prog 74 #[.pointer (some ⟨B, 0, none⟩)] w (Drawn B 0 255 w) := by
  have hlt := hc.lt
  obtain ⟨a, n, cap, i, h, hh, hi, hn, hb⟩ := hc
  have c0 : w.cell? ⟨B, 0, none⟩ = some (.slice a n cap) := by simp [World.cell?, hh]
  have c1 : w.cell? ⟨B, 1, none⟩ = some (.int .i64 i) := by simp [World.cell?, hh]
  have c2 : w.cell? ⟨B, 2, none⟩ = some (.int .i64 h) := by simp [World.cell?, hh]
  have hfz : ∀ j, w.frozen? ⟨B, j, none⟩ = false := fun j => by simp [World.frozen?, hh]
  have HH := Lib.hid hh; clear hh
  by_cases hin : i < n
  · obtain ⟨b, off, rfl, hbB, x, hx0, hx1, cx⟩ := hb i hin
    have hbB' : b ≠ B := by omega
    go_enter Tryz.func74, Tryz.ntmps74
    go_wp2
    (refine wp_region_ext (by kernel_rfl) (by kernel_rfl) ?_; (repeat (go_big_quiet_step (fail))); refine wpQuiet_nil ?_; intro w1 hb1; obtain ⟨hc1, hf1⟩ := bcell hb1; have hz1 := hb1.size; (try simp only [World.size_alloc, World.size_setCell, World.size_drew] at hz1))
    have hB1 : B < w1.heap.size := by omega
    go_wp2
    (refine wp_region_ext (by kernel_rfl) (by kernel_rfl) ?_; (repeat (go_big_quiet_step (fail))); refine wpQuiet_nil ?_; intro w2 hb2; obtain ⟨hc2, hf2⟩ := bcell hb2; have hz2 := hb2.size; (try simp only [World.size_alloc, World.size_setCell, World.size_drew] at hz2))
    have hB2 : B < w2.heap.size := by omega
    have hb1' : b < w1.heap.size := by omega
    have hb2' : b < w2.heap.size := by omega
    have hin' : (i : Int) < n := by omega
    have cx2 : w2.cell? ⟨b, off + i, none⟩ = some (.int .u8 x) := by
      rw [hb2.cell (p := ⟨b, off + i, none⟩) hb1', hb1.cell (p := ⟨b, off + i, none⟩) (by simp; omega), World.cell?_setCell_far w ⟨B, 2, none⟩ ⟨b, off + i, none⟩ _ (Ne.symm hbB')]; exact cx
    have g1 := (hb1.block B (by simpa using hlt)).trans (heap_setCell_same w B 2 _ _ (.int .i64 (wrap64 (wrap64 (h * 6364136223846793005) + 1442695040888963407))) HH.out)
    have g2 := Lib.hid ((hb2.block B hB1).trans g1)
    have d0 : w2.cell? ⟨B, 0, none⟩ = some (.slice (some ⟨b, off, none⟩) n cap) := by simp [World.cell?, g2.out]
    have d1 : w2.cell? ⟨B, 1, none⟩ = some (.int .i64 i) := by simp [World.cell?, g2.out]
    have hfz2 : ∀ j, w2.frozen? ⟨B, j, none⟩ = false := fun j => by simp [World.frozen?, g2.out]
    clear hc1 hc2 hf1 hf2 g1 c0 c1 c2 hfz
    go_wp2
    (refine wp_region_ext (by kernel_rfl) (by kernel_rfl) ?_; (repeat (go_big_quiet_step (fail))); refine wpQuiet_nil ?_; intro w3 hb3; obtain ⟨hc3, hf3⟩ := bcell hb3; have hz3 := hb3.size; (try simp only [World.size_alloc, World.size_setCell, World.size_drew] at hz3))
    have hB3 : B < w3.heap.size := by omega
    go_wp2
    go_ret
    have g3 := (hb3.block B hB2).trans g2.out
    have hO : Oth B w (w3.setCell ⟨B, 1, none⟩ (.int .i64 (i + 1 : Nat))) := ((((Oth.refl B w).setCell _).trans (Oth.of_below hb1)).trans ((Oth.of_below hb2).trans (Oth.of_below hb3))).setCell _
    refine ⟨_, rfl, by omega, by omega, ⟨_, n, cap, i + 1, _, heap_setCell_same w3 B 1 _ _ (.int .i64 (i + 1 : Nat)) g3, by omega, hn, ?_⟩, ?_⟩
    · exact hb.oth hO (by omega)
    · exact hO
  · have hin' : ¬ (i : Int) < n := by omega
    go_enter Tryz.func74, Tryz.ntmps74
    go_wp2
    (refine wp_region_ext (by kernel_rfl) (by kernel_rfl) ?_; (repeat (go_big_quiet_step (fail))); refine wpQuiet_nil ?_; intro w1 hb1; obtain ⟨hc1, hf1⟩ := bcell hb1; have hz1 := hb1.size; (try simp only [World.size_alloc, World.size_setCell, World.size_drew] at hz1))
    have hB1 : B < w1.heap.size := by omega
    go_wp2
    (refine wp_region_ext (by kernel_rfl) (by kernel_rfl) ?_; (repeat (go_big_quiet_step (fail))); refine wpQuiet_nil ?_; intro w2 hb2; obtain ⟨hc2, hf2⟩ := bcell hb2; have hz2 := hb2.size; (try simp only [World.size_alloc, World.size_setCell, World.size_drew] at hz2))
    go_wp2
    go_ret
    have g1 := (hb1.block B (by simpa using hlt)).trans (heap_setCell_same w B 2 _ _ (.int .i64 (wrap64 (wrap64 (h * 6364136223846793005) + 1442695040888963407))) HH.out)
    have g2 := (hb2.block B hB1).trans g1
    have hO : Oth B w w2 := (((Oth.refl B w).setCell _).trans (Oth.of_below hb1)).trans (Oth.of_below hb2)
    exact ⟨_, rfl, by omega, by omega, ⟨a, n, cap, i, _, g2, hi, hn, hb.oth hO (by omega)⟩, hO⟩
set_option maxHeartbeats 2000000 in
theorem l1Below_any (B : Nat) (n : Int) (w : World) (hc : Cur w B) (h0 : 0 < n) (h1 : n ≤ 256) : Calls Tryz.prog 48 #[.pointer (some ⟨B, 0, none⟩), .int .i64 n] w (Drawn B 0 (n - 1) w) := by
  have hn0 : ¬ n ≤ 0 := by omega
  have hn1 : 1 ≤ n := by omega
  go_enter Tryz.func48, Tryz.ntmps48
  go_wp2_with fail
  refine (l1Byte_any B w hc).mono ?_
  rintro r w1 ⟨x, rfl, hx0, hx1, hc1, ho1⟩
  have hm0 : 0 ≤ x % n := Int.emod_nonneg _ (by omega)
  have hm1 : x % n < n := Int.emod_lt_of_pos _ h0
  go_wp2
  go_ret
  exact ⟨_, rfl, by omega, by omega, hc1, ho1⟩
set_option maxRecDepth 100000 in
set_option maxHeartbeats 2000000 in
theorem l1Below_big (B : Nat) (n : Int) (w : World) (hc : Cur w B) (h0 : 256 < n) (h1 : n ≤ 4294967296) : Calls Tryz.prog 48 #[.pointer (some ⟨B, 0, none⟩), .int .i64 n] w (Drawn B 0 (n - 1) w) := by
  have hn0 : ¬ n ≤ 0 := by omega
  have hn1 : ¬ n ≤ 256 := by omega
  have hn2 : 1 ≤ n := by omega
  go_enter Tryz.func48, Tryz.ntmps48
  go_wp2_with fail
  refine (l1Byte_any B w hc).mono ?_
  rintro r w1 ⟨x, rfl, hx0, hx1, hc1, ho1⟩
  go_wp2_with fail
  refine (l1Byte_any B w1 hc1).mono ?_
  rintro r w2 ⟨y, rfl, hy0, hy1, hc2, ho2⟩
  go_wp2_with fail
  refine (l1Byte_any B w2 hc2).mono ?_
  rintro r w3 ⟨z, rfl, hz0, hz1, hc3, ho3⟩
  go_wp2_with fail
  refine (l1Byte_any B w3 hc3).mono ?_
  rintro r w4 ⟨u, rfl, hu0, hu1, hc4, ho4⟩
  have hm0 : 0 ≤ (x * 16777216 + y * 65536 + z * 256 + u) % n := Int.emod_nonneg _ (by omega)
  have hm1 : (x * 16777216 + y * 65536 + z * 256 + u) % n < n := Int.emod_lt_of_pos _ (by omega)
  go_wp2
  go_ret
  exact ⟨_, rfl, by omega, by omega, hc4, ((ho1.trans ho2).trans ho3).trans ho4⟩
def Code (w : World) (a : Option Addr) (n : Nat) : Prop := ∀ k, k < n → ∃ b off, a = some ⟨b, off, none⟩ ∧ b < w.heap.size ∧ ∃ x : Int, 0 ≤ x ∧ x ≤ 255 ∧ w.cell? ⟨b, off + k, none⟩ = some (.int .u8 x)
theorem Code.keep {w w' : World} {a : Option Addr} {n : Nat} (h : Code w a n) (hb : Below w.heap.size w w') : Code w' a n := by
  intro k hk
  obtain ⟨b, off, e, hb1, y, hy0, hy1, cy⟩ := h k hk
  exact ⟨b, off, e, Nat.lt_of_lt_of_le hb1 hb.size, y, hy0, hy1, (hb.cell (p := ⟨b, _, none⟩) hb1).trans cy⟩
@[reducible] def byCs (x : Int) : List Value := [.int .u8 x]
def ByOk (x : Int) : Prop := 0 ≤ x ∧ x ≤ 255
theorem code_of {w : World} {a : Option Addr} {cap : Nat} {xs : List Int} (h : (⟨a, cap, xs⟩ : SlArg Int).ok 1 byCs ByOk w) : Code w a xs.length := by
  intro k hk
  obtain ⟨b, off, e, hb, hc⟩ := h.sl k xs[k] (List.getElem?_eq_getElem hk)
  exact ⟨b, off, e, hb, xs[k], (h.each _ (List.getElem_mem hk)).1, (h.each _ (List.getElem_mem hk)).2, by simpa using hc 0 _ rfl⟩
theorem flat_bytes : flat Tryz.prog 9 30 = some [.sl [CK.int .u8]] := by kernel_rfl
theorem cells_bytes : Tryz.prog.cellsOf 30 = 1 := by kernel_rfl
set_option maxRecDepth 100000 in
theorem openBytes {H : Type} {enc : TypeId × Value → H} {W : World} {base : Nat} {sp : Nat → Bool} {v : Value} {d : DataW H} {ps : List MemPlace}
    (hv : Value.okWide Tryz.prog W .any base 30 v) (h : DataW.Trod enc Tryz.prog W 0 sp true 30 v d ps) : ∃ x : SlArg Int, v = x.val ∧ x.ok 1 byCs ByOk W := by
  obtain ⟨a0, len, cap, rfl⟩ := okWide_slice Tryz.underlying30 hv
  obtain ⟨x, hx, hk⟩ := flat_trod flat_bytes cells_bytes h 0 _ rfl
  simp only [Value.cells, List.getElem?_cons_zero, Option.some.injEq] at hx
  subst hx
  refine sl_open (hk 2) rfl (by omega) (fun _ => rfl) fun l hl hj => ?_
  match l, hl with
  | [c], _ =>
    obtain ⟨x0, e0, h0⟩ := hj 0 _ rfl
    obtain ⟨n0, rfl, w0⟩ := ok_int h0
    simp at e0
    exact ⟨n0, by simp [byCs, e0], by simpa [Lit.wf, IntKind.min, IntKind.max, IntKind.signed, IntKind.bits, ByOk] using w0⟩
def NewCur (w : World) (r : Ending) (w' : World) : Prop := ∃ B, r = .returned (.pointer (some ⟨B, 0, none⟩)) ∧ w.heap.size ≤ B ∧ Cur w' B ∧ Below w.heap.size w w'
theorem newCur_mk {w : World} {a : Option Addr} {n cap : Nat} {m : Int} (h : Code w a n) (hn : n ≤ 1048576) :
    NewCur w (.returned (.pointer (some ⟨w.heap.size, 0, none⟩))) (w.alloc (.cells #[.slice a n cap, .int .i64 0, .int .i64 m] 79)) := by
  refine ⟨w.heap.size, rfl, Nat.le_refl _, ⟨a, n, cap, 0, m, heap_alloc_new w _, Nat.zero_le _, hn, ?_⟩, (Below.refl _ _).alloc (Nat.le_refl _) _⟩
  intro k hk
  obtain ⟨b, off, e, hb, y, hy0, hy1, cy⟩ := h k hk
  exact ⟨b, off, e, hb, y, hy0, hy1, ((Below.refl w.heap.size w).alloc (Nat.le_refl _) _).cell (p := ⟨b, _, none⟩) hb |>.trans cy⟩
set_option maxRecDepth 100000 in
set_option maxHeartbeats 2000000 in
theorem l1New_any (a : Option Addr) (cap n : Nat) (w : World) (h : Code w a n) (hn : n ≤ 1048576) : Calls Tryz.prog 28 #[.slice a n cap] w (NewCur w) := by
  go_enter Tryz.func28, Tryz.ntmps28
  go_wp2
  go_loop [3, 4] (fun t i => ∃ k : Nat, k ≤ n ∧ i = .int .i64 k ∧ ∃ m : Int, t = .int .i64 m) (fun _ i => n - (intOf i).toNat)
  case atStart => exact ⟨0, Nat.zero_le _, rfl, _, rfl⟩
  case round =>
    obtain ⟨k, hk, rfl, m, rfl⟩ := hrel
    by_cases hlt : k < n
    · obtain ⟨b, off, rfl, hb, x, hx0, hx1, cx⟩ := h k hlt
      by_cases h4 : k < 4000
      · go_wp2
        go_round
        case rel => exact ⟨k + 1, by omega, by go_num, _, rfl⟩
        case measure => simp [intOf]; omega
      · go_wp2
        go_ret
        exact newCur_mk h hn
    · go_wp2
      go_ret
      exact newCur_mk h hn
theorem big_any (a : Option Addr) (cap n : Nat) (w : World) : Calls Tryz.prog 10 #[.slice a n cap] w fun r w' => r = .returned (.bool (decide (1048576 < (n : Int)))) ∧ w = w' := by
  go_enter Tryz.func10, Tryz.ntmps10
  go_wp2
  go_ret
  exact ⟨ret_bool (by simp), rfl⟩
theorem Code.tail {w : World} {b off n : Nat} (h : Code w (some ⟨b, off, none⟩) n) : Code w (some ⟨b, off + 1, none⟩) (n - 1) := by
  intro k hk
  obtain ⟨b', off', e, hb, y, hy0, hy1, cy⟩ := h (k + 1) (by omega)
  simp only [Option.some.injEq, Addr.mk.injEq, and_true] at e
  obtain ⟨rfl, rfl⟩ := e
  exact ⟨b, off + 1, rfl, hb, y, hy0, hy1, by rw [show off + 1 + k = off + (k + 1) by omega]; exact cy⟩
theorem Cur.below {w w' : World} {B : Nat} (h : Cur w B) (hb : Below w.heap.size w w') : Cur w' B := by
  have hlt := h.lt
  obtain ⟨a, n, cap, i, x, hh, hi, hn, hby⟩ := h
  exact ⟨a, n, cap, i, x, (hb.block B hlt).trans hh, hi, hn, hby.oth (Oth.of_below hb) (by omega)⟩
structure Up (B : Nat) (w0 w : World) : Prop where
  cur : Cur w B
  oth : Oth B w0 w
theorem Cur.same {w w' : World} {B : Nat} (h : Cur w B) (hs : ∀ k, k ≤ B → w'.heap[k]? = w.heap[k]?) : Cur w' B := by
  obtain ⟨a, n, cap, i, x, hh, hi, hn, hb⟩ := h
  refine ⟨a, n, cap, i, x, (hs B (Nat.le_refl _)).trans hh, hi, hn, fun k hk => ?_⟩
  obtain ⟨b, off, e, hb', y, h0, h1, hc⟩ := hb k hk
  exact ⟨b, off, e, hb', y, h0, h1, (World.cell?_of_block (a := ⟨b, off + k, none⟩) (hs b (by omega))).trans hc⟩
theorem Up.grown {B : Nat} {w0 w w' : World} {row : Option Nat} (h : Up B w0 w) (hB : B < w0.heap.size) (hg : w.grownBy w' row) (hr : ∀ g, row = some g → w0.heap.size ≤ g) : Up B w0 w' := by
  have hsz := h.oth.size
  refine ⟨h.cur.same fun k hk => hg.block k (by omega) (fun e => by have := hr k e.symm; omega), ⟨hg.os.trans h.oth.os, hg.tape.trans h.oth.tape, hg.output.trans h.oth.output, Nat.le_trans hsz hg.size, fun k hk hn => ?_⟩⟩
  exact (hg.block k (by omega) (fun e => by have := hr k e.symm; omega)).trans (h.oth.block hk (by simpa using hn))
theorem Up.alloc {B : Nat} {w0 w : World} (h : Up B w0 w) (hB : B < w0.heap.size) (o : Obj) : Up B w0 (w.alloc o) := h.grown hB (World.grownBy_alloc w o none) (by simp)
theorem Up.step {B : Nat} {w0 w w' : World} (h : Up B w0 w) (hc : Cur w' B) (ho : Oth B w w') : Up B w0 w' := ⟨hc, h.oth.trans ho⟩
theorem Up.refl {B : Nat} {w : World} (h : Cur w B) : Up B w w := ⟨h, Oth.refl _ _⟩
theorem owns_oth {w w' : World} {B base n size : Nat} {t : TypeId} {v : Value} {L : List Value} (h : w.ownsRow base t size v n L) (ho : Oth B w w') (hB : B < base) : w'.ownsRow base t size v n L :=
  h.kept ho (.inr (by
    intro e
    have h1 := h.lt B e
    omega))
def DrawnO (B : Nat) (w : World) (r : Ending) (w' : World) : Prop := ∃ b : Bool, r = .returned (.bool b) ∧ Cur w' B ∧ Oth B w w'
theorem l1Once_any (B : Nat) (n : Int) (w : World) (hc : Cur w B) (h0 : 0 < n) (h1 : n ≤ 256) :
    Calls Tryz.prog 49 #[.pointer (some ⟨B, 0, none⟩), .int .i64 n] w (DrawnO B w) := by
  go_enter Tryz.func49, Tryz.ntmps49
  go_wp2_with fail
  refine (l1Below_any B n w hc h0 h1).mono ?_
  rintro r w1 ⟨x, rfl, hx0, hx1, hc1, ho1⟩
  go_wp2
  go_ret
  exact ⟨_, rfl, hc1, ho1⟩
theorem Up.below {B n : Nat} {w0 w w' : World} (h : Up B w0 w) (hB : B < w0.heap.size) (hb : Below n w w') (hn : w0.heap.size ≤ n) : Up B w0 w' :=
  ⟨h.cur.same fun k hk => hb.block k (by omega), ⟨hb.os.trans h.oth.os, hb.tape.trans h.oth.tape, hb.output.trans h.oth.output, Nat.le_trans h.oth.size hb.size, fun k hk hn' => (hb.block k (by omega)).trans (h.oth.block hk (by simpa using hn'))⟩⟩
def DrawnIn (B : Nat) (l : List Int) (w : World) (r : Ending) (w' : World) : Prop := ∃ x : Int, r = .returned (.int .i64 x) ∧ x ∈ l ∧ Cur w' B ∧ Oth B w w'
theorem l1PickInt_in (B g cap : Nat) (l : List Int) (t : TypeId) (w : World) (hc : Cur w B) (hg : g ≠ B) (h : w.heap[g]? = some (.cells (l.map (Value.int .i64)).toArray t (0, 0))) (h0 : 0 < l.length) (h1 : l.length ≤ 256) :
    Calls Tryz.prog 50 #[.pointer (some ⟨B, 0, none⟩), .slice (some ⟨g, 0, none⟩) l.length cap] w (DrawnIn B l w) := by
  obtain ⟨n, hn⟩ : ∃ n, n = l.length := ⟨_, rfl⟩
  rw [← hn] at h0 h1 ⊢
  have HN := Lib.hid hn; clear hn
  have HH := Lib.hid h; clear h
  go_enter Tryz.func50, Tryz.ntmps50
  go_wp2_with fail
  refine (l1Below_any B n w hc (by omega) (by omega)).mono ?_
  rintro r w1 ⟨x, rfl, hx0, hx1, hc1, ho1⟩
  obtain ⟨k, rfl⟩ := Int.eq_ofNat_of_zero_le hx0
  have hgl : g < w.heap.size := box_lt HH.out
  have hb := (ho1.block hgl hg).trans HH.out
  have hkl : k < l.length := by have := HN.out; omega
  obtain ⟨x, hx, hxm⟩ : ∃ x : Int, w1.cell? ⟨g, k, none⟩ = some (.int .i64 x) ∧ x ∈ l := ⟨l[k], by simp [World.cell?, hb, hkl], List.getElem_mem hkl⟩
  clear hb
  have HXm := Lib.hid hxm; clear hxm
  go_wp2
  go_ret
  exact ⟨x, rfl, HXm.out, hc1, ho1⟩
def DrawnW (B : Nat) (w : World) (r : Ending) (w' : World) : Prop := ∃ x : Int, r = .returned (.int .i64 x) ∧ W64 x ∧ Cur w' B ∧ Oth B w w'
theorem w64_lim {u : Int} (h0 : -9223372036854775808 ≤ u) (h1 : u ≤ 9223372036854775807) : W64 u := by
  unfold W64; simp [Lit.wf, IntKind.min, IntKind.max, IntKind.signed, IntKind.bits]; omega
set_option maxRecDepth 100000 in
set_option maxHeartbeats 2000000 in
theorem l4Number_w (B : Nat) (w : World) (hc : Cur w B) : Calls Tryz.prog 51 #[.pointer (some ⟨B, 0, none⟩)] w (DrawnW B w) := by
  have hB := hc.lt
  go_enter Tryz.func51, Tryz.ntmps51
  go_wp2_with fail
  refine (l1Once_any B 4 w hc (by omega) (by omega)).mono ?_
  rintro r w1 ⟨b, rfl, hc1, ho1⟩
  have hz1 := ho1.size
  cases b
  · go_wp2_with fail
    refine (l1Below_any B 20 w1 hc1 (by omega) (by omega)).mono ?_
    rintro r w2 ⟨x, rfl, hx0, hx1, hc2, ho2⟩
    go_wp2
    go_ret
    exact ⟨_, rfl, w64_lim (by omega) (by omega), hc2, ho1.trans ho2⟩
  · go_wp2_with fail
    have hu := (Up.step (Up.refl hc) hc1 ho1).alloc hB
    refine (l1PickInt_in B w1.heap.size 10 [0, 1, -1, 18999, 19000, 19999, 20000, 536870911, 536870912, 9223372036854775807] _ _ (hu _).cur (by omega) (heap_alloc_new _ _) (by decide) (by decide)).mono ?_
    rintro r w2 ⟨x, rfl, hxm, hc2, ho2⟩
    have hw : W64 x := by
      simp only [List.mem_cons, List.not_mem_nil, or_false] at hxm
      rcases hxm with rfl | rfl | rfl | rfl | rfl | rfl | rfl | rfl | rfl | rfl <;> exact w64_lim (by omega) (by omega)
    clear hxm
    have HW := Lib.hid hw; clear hw
    go_wp2
    go_ret
    exact ⟨x, rfl, HW.out, hc2, (hu _).oth.trans ho2⟩
end Go.Proofs.YtbjbgneiglopmaaGreatDoor

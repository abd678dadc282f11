/- Texts that ReadRawL leans on, part 6. (Put together by wip/tools/bundle.py.) -/
import Derived.Handed
import Derived.SizedLaws
import Derived.Test.YtbjbgneiglopmaaGreatDoorRdR1
import Derived.Test.YtbjbgneiglopmaaGreatDoorRdR2
import Derived.Test.YtbjbgneiglopmaaGreatDoorRdR3
import Derived.Test.YtbjbgneiglopmaaGreatDoorRdR4
import Derived.Test.YtbjbgneiglopmaaGreatDoorRdR5
namespace Go.Proofs.YtbjbgneiglopmaaGreatDoor
set_option linter.unusedSimpArgs false
set_option linter.unusedVariables false
open Go.ChangeShapes Go.WideShapes Go.ChangeAt Go.RowKit Go.BigFrame
theorem info_RrF : (Tryz.prog.info? 44).map (fun i => (i.zero, i.size, i.bytes)) = some (some (.agg #[.int .i64 0, .int .i64 0, .bool false, .bool false, .int .i64 0]), 5, 32) := by kernel_rfl
theorem info_RrM : (Tryz.prog.info? 40).map (fun i => (i.zero, i.size, i.bytes)) = some (some (.agg #[.int .i64 0, .slice none 0 0]), 2, 32) := by kernel_rfl
def FreshRd (w : World) (n : Nat) (xs : List Shp) (b : Bool) (r : Ending) (w' : World) : Prop :=
  ∃ a cap rs, r = .returned (.tuple #[.agg #[.slice a n cap], .bool b]) ∧ OwnShs w' w.heap.size 40 44 (.slice a n cap) n rs xs ∧ Below w.heap.size w w'
theorem raws_step {x : List UInt8} {r : List (List UInt8)} {m : Shp} {ys : List Shp} (h : msgS x = some m) : (rawsS (x :: r)).map (ys ++ ·) = (rawsS r).map ((ys ++ [m]) ++ ·) := by
  rw [rawsS, h]; cases rawsS r <;> simp
theorem raws_none {x : List UInt8} {r : List (List UInt8)} {ys : List Shp} (h : msgS x = none) : (rawsS (x :: r)).map (ys ++ ·) = none := by rw [rawsS, h]; rfl
theorem readAll_step {x : List UInt8} {r : List (List UInt8)} {f : Fld} {ys : List Fld} (h : readS x = (f, true)) : (readAll (x :: r)).map (ys ++ ·) = (readAll r).map ((ys ++ [f]) ++ ·) := by
  rw [readAll, h]; cases readAll r <;> simp
theorem readAll_none {x : List UInt8} {r : List (List UInt8)} {ys : List Fld} (h : (readS x).2 = false) : (readAll (x :: r)).map (ys ++ ·) = none := by rw [readAll, h]; rfl
theorem msgS_bad {x : List UInt8} (h : ¬ (partsL 58 x).length = 2) : msgS x = none := by
  rw [msgS]; split
  · rename_i e; rw [e] at h; simp at h
  · rfl
theorem msgS_two {x a b : List UInt8} (h : partsL 58 x = [a, b]) : msgS x = (readAll (wordsS b)).map fun fs => ⟨numD a, fs⟩ := by rw [msgS, h]
theorem fld_snocR (fs : List Fld) (f : Fld) : (fs ++ [f]).flatMap Fld.cs = fs.flatMap Fld.cs ++ f.cs := by simp
set_option maxRecDepth 100000 in
set_option maxHeartbeats 8000000 in
theorem specReadRaw_any (s : ByteArray) (w : World) (hs : s.size ≤ 1048576) :
    Calls Tryz.prog 5 #[.string s] w (FreshRd w (rawS (bL s)).1.length (rawS (bL s)).1 (rawS (bL s)).2) := by
  obtain ⟨⟨RX, RB⟩, hR⟩ : ∃ R, rawS (bL s) = R := ⟨_, rfl⟩
  rw [hR]
  have HR := Lib.hid hR; clear hR
  simp only
  by_cases h0 : s.size = 0
  · have hl0 : bL s = [] := List.length_eq_zero_iff.1 (by rw [bL_len]; exact h0)
    have hz : (RX, RB) = ([], true) := by rw [← HR.out, rawS, if_pos hl0]
    simp only [Prod.mk.injEq] at hz
    obtain ⟨rfl, rfl⟩ := hz
    have hse : s.toList = [] := by rw [ByteArray.toList_eq]; exact List.length_eq_zero_iff.1 (by rw [Array.length_toList]; exact h0)
    clear HR h0 hl0
    go_enter Tryz.func5, Tryz.ntmps5
    go_wp2_with fail
    refine bodyPost_ret (v := .tuple #[.agg #[.slice none 0 0], .bool true]) (by simp [results, Tryz.results5, go_sem]) rfl ⟨none, 0, [], rfl, OwnShs.nil _ _ _ _, by ((repeat (first | (with_reducible exact Below.refl _ _) | (with_reducible assumption) | (with_reducible refine Below.alloc ?_ ?_ _) | (with_reducible refine Below.setCell ?_ ?_ _) | (with_reducible refine Below.drew ?_) | (with_reducible refine below_setRow ?_ ?_ _) | (refine Below.trans ?_ (Below.mono (by assumption) ?_)))); all_goals (first | omega | (simp; done) | (simp; omega)))⟩
  · have hl0 : bL s ≠ [] := fun e => h0 (by rw [← bL_len, e]; rfl)
    have hse : ¬ s.toList = [] := by
      rw [ByteArray.toList_eq]; intro e
      have := congrArg List.length e
      rw [Array.length_toList] at this
      exact h0 this
    have hse2 : s.toList.isEmpty = false := by simpa using hse
    by_cases hb : 4000 < s.size
    · have hz : (RX, RB) = ([], false) := by rw [← HR.out, rawS, if_neg hl0, if_pos (by rw [bL_len]; exact hb)]
      simp only [Prod.mk.injEq] at hz
      obtain ⟨rfl, rfl⟩ := hz
      have hbi : (4000 : Int) < s.size := by omega
      clear HR h0 hl0
      go_enter Tryz.func5, Tryz.ntmps5
      go_wp2_with fail
      refine bodyPost_ret (v := .tuple #[.agg #[.slice none 0 0], .bool false]) (by simp [results, Tryz.results5, go_sem]) rfl ⟨none, 0, [], rfl, OwnShs.nil _ _ _ _, by ((repeat (first | (with_reducible exact Below.refl _ _) | (with_reducible assumption) | (with_reducible refine Below.alloc ?_ ?_ _) | (with_reducible refine Below.setCell ?_ ?_ _) | (with_reducible refine Below.drew ?_) | (with_reducible refine below_setRow ?_ ?_ _) | (refine Below.trans ?_ (Below.mono (by assumption) ?_)))); all_goals (first | omega | (simp; done) | (simp; omega)))⟩
    · have hbi : ¬ (4000 : Int) < s.size := by omega
      obtain ⟨ws, hws⟩ : ∃ ws, partsL 59 (bL s) = ws := ⟨_, rfl⟩
      have hwl : ws.length ≤ 4001 := by rw [← hws]; have := partsL_len 59 (bL s); rw [bL_len] at this; omega
      have hwx : ∀ x ∈ ws, x.length ≤ 4000 := by
        rw [← hws]; intro x hx
        have := partsL_le hx
        rw [bL_len] at this; omega
      have hRR : (RX, RB) = match rawsS ws with | some xs => if rawTextL xs = bL s then (xs, true) else ([], false) | none => ([], false) := by rw [← HR.out, rawS, if_neg hl0, if_neg (by rw [bL_len]; exact hb), hws] <;> (cases rawsS ws <;> rfl)
      have hsz : ∀ xs, rawsS ws = some xs → xs.length ≤ 4001 ∧ fldSum xs ≤ 4000 := fun xs e => by
        rw [← hws] at e
        have := rawsS_size e
        rw [bL_len] at this; omega
      have hparts : ∀ W : World, Calls Tryz.prog 16 #[.string s, .int .u8 59] W (FreshStrs W ws) := fun W => by
        have := specParts_any s 59 59 W (by decide) hs
        rw [hws] at this; exact this
      obtain ⟨Z, hZ⟩ : ∃ Z, rawsS ws = Z := ⟨_, rfl⟩
      rw [hZ] at hRR hsz
      have HRR := Lib.hid hRR; have HZ := Lib.hid hZ; have HSZ := Lib.hid hsz; have HWX := Lib.hid hwx; clear hRR HR hZ hsz hwx hws h0 hl0 hb
      obtain ⟨n, hn⟩ : ∃ n, ws.length = n := ⟨_, rfl⟩
      obtain ⟨i0, hi, hF0, hF1, hF2⟩ := info_parts info_RrF
      obtain ⟨i1, hj, hj0, hj1, hj2⟩ := info_parts info_RrM
      go_enter Tryz.func5, Tryz.ntmps5
      go_wp2_with fail
      refine (hparts _).mono ?_
      rintro r w1 ⟨g, cap, rfl, ho, hb1⟩
      have hz1' := hb1.size
      simp only [World.size_alloc] at hz1' ho
      have hR_ : w1.heap[w.heap.size]? = some (.cells #[.slice none 0 0] 24 (0, 0)) := (hb1.block _ (by simp; omega)).trans (hset_alloc (hset_new rfl))
      have hO_ : w1.heap[w.heap.size + 1]? = some (.cells #[.slice none 0 0] 24 (0, 0)) := (hb1.block _ (by simp)).trans (hset_new (by simp))
      have hbw : Below w.heap.size w w1 := (((Below.refl _ _).alloc (Nat.le_refl _) _).alloc (by simp) _).trans (hb1.mono (by simp; omega))
      rw [hn] at ho ⊢
      have HN := Lib.hid hn
      clear hb1 hparts
      go_wp2_with fail
      go_loopw [6] (fun i wr => ∃ k : Nat, k ≤ n ∧ i = .int .i64 k ∧ (∃ v rs ys, OwnShs wr (w.heap.size + 1 + 1) 40 44 v k rs ys ∧ wr.heap[w.heap.size + 1]? = some (.cells #[v] 24 (0, 0)) ∧ Hid ((rawsS (ws.drop k)).map (ys ++ ·) = Z)) ∧ wr.heap[w.heap.size]? = some (.cells #[.slice none 0 0] 24 (0, 0)) ∧ wr.ownsRow (w.heap.size + 1 + 1) 9 1 (.slice (some ⟨g, 0, none⟩) n cap) n (strRowP ws) ∧ Below w.heap.size w wr) (fun i _ => n - (intOf i).toNat)
      case atStart => exact ⟨0, Nat.zero_le _, rfl, ⟨.slice none 0 0, [], [], OwnShs.nil _ _ _ _, hO_, Lib.hid (by rw [List.drop_zero, HZ.out]; cases Z <;> simp)⟩, hR_, ho, hbw⟩
      case round =>
        clear hO_ hR_ ho hbw
        obtain ⟨k, hk, rfl, ⟨v, rs, ys, ho, hO, hq⟩, hR, hrow, hb⟩ := hrel
        have hz := hb.size
        have hOl := box_lt hO
        have kO := box_cells hO 0; have fO := box_frozen hO 0; have kR := box_cells hR 0; have fR := box_frozen hR 0
        simp only [List.getElem?_toArray, List.getElem?_cons_zero] at kO kR
        have HO := Lib.hid ho; have HOx := Lib.hid hO; have HRx := Lib.hid hR; have HWS := Lib.hid hrow; clear ho hO hR hrow
        by_cases hlt : k < n
        · obtain ⟨x, hx, hxm⟩ := at_lt (xs := ws) (k := k) (by rw [HN.out]; exact hlt)
          have hgl := (HWS.out.lt g rfl).2
          have c0 : wr.cell? ⟨g, k, none⟩ = some (.string ⟨x.toArray⟩) := own_cell HWS.out hx
          have hxl := HWX.out x hxm
          obtain ⟨wo, hwo⟩ : ∃ wo : World, wo = wr := ⟨_, rfl⟩
          rw [← hwo] at HO HOx HRx HWS hb hz hOl kO fO kR fR hgl c0 ⊢
          clear hwo
          have hdr : ws.drop k = x :: ws.drop (k + 1) := (List.getElem?_eq_some_iff.1 hx).2 ▸ List.drop_eq_getElem_cons _
          rw [hdr] at hq
          have HQ := Lib.hid hq.out; clear hq hdr hx hxm
          obtain ⟨two, h2⟩ : ∃ two, partsL 58 x = two := ⟨_, rfl⟩
          have hp2 : ∀ W : World, Calls Tryz.prog 16 #[.string ⟨x.toArray⟩, .int .u8 58] W (FreshStrs W two) := fun W => by
            have := specParts_any ⟨x.toArray⟩ 58 58 W (by decide) (by simp [ByteArray.size]; omega)
            rw [← h2]; exact this
          have hlc : (k : Int) < (n : Int) := by omega
          go_wp2_with fail
          refine (hp2 _).mono ?_
          rintro r w2 ⟨g2, cap2, rfl, ho2, hb2⟩
          have hz2 := hb2.size
          have hR2 := (hb2.block w.heap.size (by omega)).trans HRx.out
          have hO2 := (hb2.block (w.heap.size + 1) hOl).trans HOx.out
          have hT2 : Below w.heap.size w w2 := hb.trans (hb2.mono hz)
          clear hp2 kO fO kR fR
          by_cases hl2 : two.length = 2
          · obtain ⟨a, b, rfl⟩ : ∃ a b, two = [a, b] := by
              match two, hl2 with
              | [a, b], _ => exact ⟨a, b, rfl⟩
            have hms := msgS_two h2
            have hab : a.length ≤ 4000 ∧ b.length ≤ 4000 := ⟨Nat.le_trans (partsL_le (c := 58) (l := x) (by rw [h2]; simp)) hxl, Nat.le_trans (partsL_le (c := 58) (l := x) (by rw [h2]; simp)) hxl⟩
            obtain ⟨hal, hbl⟩ := hab
            obtain ⟨M, hM⟩ : ∃ M, w2.heap.size = M := ⟨_, rfl⟩
            have hg2 := (ho2.lt g2 rfl).2
            have q0 := own_cell ho2 (j := 0) (l := a) rfl
            have q1 := own_cell ho2 (j := 1) (l := b) rfl
            obtain ⟨E, hE⟩ : ∃ E, wordsS b = E := ⟨_, rfl⟩
            obtain ⟨Y, hY⟩ : ∃ Y, readAll E = Y := ⟨_, rfl⟩
            obtain ⟨id, hid⟩ : ∃ id, numD a = id := ⟨_, rfl⟩
            rw [hE, hid, hY] at hms
            have hnum : ∀ W : World, Calls Tryz.prog 17 #[.string ⟨a.toArray⟩] W fun r w' => r = .returned (.tuple #[.int .i64 id, .bool (numUpto 999999999 a).isSome]) ∧ Below W.heap.size W w' := fun W => by
              have := specNumber_any ⟨a.toArray⟩ W
              rw [← hid]; exact this
            obtain ⟨wd, hwd⟩ : ∃ wd, partsL 44 b = wd := ⟨_, rfl⟩
            have hp4 : ∀ W : World, Calls Tryz.prog 16 #[.string ⟨b.toArray⟩, .int .u8 44] W (FreshStrs W wd) := fun W => by
              have := specParts_any ⟨b.toArray⟩ 44 44 W (by decide) (by simp [ByteArray.size]; omega)
              rw [← hwd]; exact this
            have HMS := Lib.hid hms; have HR2 := Lib.hid hR2; have HO2 := Lib.hid hO2; have HEW := Lib.hid hE; have HYY := Lib.hid hY
            have HSo := Lib.hid (HO.out.below hb2 (Nat.le_refl _)); have HW2 := Lib.hid (owns_below HWS.out hb2 (Nat.le_refl _))
            clear hms hR2 hO2 hE hY hid ho2 h2 hl2 c0
            have hgM : ¬ g2 = M := by omega
            have hgM2 : ¬ M = g2 := by omega
            have hgMl : g2 < M := by omega
            go_wp2_with fail
            refine (hnum _).mono ?_
            rintro r w3 ⟨rfl, hb3⟩
            have hz3 := hb3.size
            simp only [World.size_alloc] at hz3
            have hM3 := (hb3.block w2.heap.size (by simp)).trans (hset_new (o := .cells #[.int .i64 0, .slice none 0 0] 40 (0, 0)) rfl)
            rw [hM] at hM3 hz3
            have kM := box_cells hM3; have fM := box_frozen hM3; have lM := box_lt hM3
            have q13 : w3.cell? ⟨g2, 1, none⟩ = some (.string ⟨b.toArray⟩) := (hb3.cell (p := ⟨g2, 1, none⟩) (by simp; omega)).trans ((Below.cell (B := w2.heap.size) ((Below.refl _ _).alloc (Nat.le_refl _) _) (p := ⟨g2, 1, none⟩) hg2).trans q1)
            have hg23 : g2 < w3.heap.size := by omega
            have HM3 := Lib.hid hM3
            have hB3 : Below M w2 w3 := ((Below.refl w2.heap.size w2).alloc (Nat.le_refl _) (.cells #[.int .i64 0, .slice none 0 0] 40) |>.trans (hb3.mono (by simp))).mono (by omega)
            clear hM3 hb3 hnum q0
            simp only [hM]
            go_wp2_with fail
            refine (hp4 _).mono ?_
            rintro r w4 ⟨g3, cap3, rfl, ho4, hb4⟩
            have hz4 := hb4.size
            simp only [World.size_setCell] at hz4 ho4
            have hM3 : (w3.setCell ⟨M, 0, none⟩ (.int .i64 id)).heap[M]? = some (.cells #[.int .i64 id, .slice none 0 0] 40 (0, 0)) := by
              apply hset_eq (hset_set HM3.out); simp only [List.setIfInBounds_toArray, List.set_cons_zero, List.set_cons_succ]
            have hM4 := (hb4.block M (by simp; omega)).trans hM3
            have hB4 : Below M w2 w4 := (hB3.setCell (Nat.le_refl _) _).trans (hb4.mono (by simp; omega))
            have q14 : w4.cell? ⟨g2, 1, none⟩ = some (.string ⟨b.toArray⟩) := (hB4.cell (p := ⟨g2, 1, none⟩) hgMl).trans (by
              have h1 := hB3.cell (p := ⟨g2, 1, none⟩) hgMl
              rw [← h1]; exact q13)
            have hq4 := owns_le ho4 (show M + 1 ≤ w3.heap.size by omega)
            obtain ⟨nw, hnw⟩ : ∃ nw, wd.length = nw := ⟨_, rfl⟩
            rw [hnw] at hq4 ⊢
            have HNW := Lib.hid hnw
            clear hM3 hb4 ho4 q13 kM fM lM HM3 hB3 hp4 hnw
            go_wp2_with fail
            go_loopw [10] (fun j wi => ∃ q : Nat, q ≤ E.length ∧ j = .int .i64 q ∧ (∃ v' fs, wi.heap[M]? = some (.cells #[.int .i64 id, v'] 40 (0, 0)) ∧ wi.ownsRow (M + 1) 44 5 v' q (fs.flatMap Fld.cs) ∧ fs.length = q ∧ Hid ((readAll (E.drop q)).map (fs ++ ·) = Y)) ∧ wi.ownsRow (M + 1) 9 1 (.slice (some ⟨g3, 0, none⟩) nw cap3) nw (strRowP wd) ∧ Below M w2 wi ∧ M < wi.heap.size) (fun j _ => E.length - (intOf j).toNat)
            case atStart => exact ⟨0, Nat.zero_le _, rfl, ⟨.slice none 0 0, [], hM4, World.ownsRow_nil _ _ _ _, rfl, Lib.hid (by rw [List.drop_zero, HYY.out]; cases Y <;> simp)⟩, hq4, hB4, by omega⟩
            case round =>
              clear hM4 hq4 hB4 q14
              obtain ⟨q, hq, rfl, ⟨v', fs, hM', ho', hfl, hy⟩, hrow', hbi, hMl⟩ := hrel
              obtain ⟨wi, hwi⟩ : ∃ wi : World, wi = wr := ⟨_, rfl⟩
              rw [← hwi] at hM' ho' hrow' hbi hMl ⊢
              clear hwi
              have kM := box_cells hM'; have fM := box_frozen hM'
              have hzi := hbi.size
              have hg3 := (hrow'.lt g3 rfl).2
              have hg3M := (hrow'.lt g3 rfl).1
              have hgi : g2 < wi.heap.size := by omega
              have q1i : wi.cell? ⟨g2, 1, none⟩ = some (.string ⟨b.toArray⟩) := (hbi.cell (p := ⟨g2, 1, none⟩) hgMl).trans q1
              have HMi := Lib.hid hM'; have HVi := Lib.hid ho'; have HWi := Lib.hid hrow'; have HYi := Lib.hid hy.out; clear hM' ho' hrow' hy
              by_cases hlq : q < E.length
              · have hEb := HEW.out
                have hbe : b ≠ [] := by rintro rfl; rw [wordsS, if_pos rfl] at hEb; rw [← hEb] at hlq; simp at hlq
                have hEw : E = wd := by rw [← hEb, wordsS, if_neg hbe, hwd]
                obtain ⟨y, hyq, hym⟩ := at_lt (xs := E) (k := q) hlq
                have cy : wi.cell? ⟨g3, q, none⟩ = some (.string ⟨y.toArray⟩) := own_cell HWi.out (by rw [← hEw]; exact hyq)
                have hyl : y.length ≤ 4000 := by rw [hEw, ← hwd] at hym; exact Nat.le_trans (partsL_le hym) hbl
                have hdr : E.drop q = y :: E.drop (q + 1) := (List.getElem?_eq_some_iff.1 hyq).2 ▸ List.drop_eq_getElem_cons _
                have hHY := HYi.out
                rw [hdr] at hHY
                have HHY := Lib.hid hHY; clear hHY HYi hdr
                have hqn : (q : Int) < (nw : Int) := by have := HNW.out; rw [← hEw] at this; omega
                have hlE : E.length ≤ 4001 := by rw [hEw, ← hwd]; exact Nat.le_trans (partsL_len _ _) (by omega)
                have e3 : ((⟨b.toArray⟩ : ByteArray).toList.isEmpty) = false := by rw [ByteArray.toList_eq]; simpa using hbe
                have e4 : b.isEmpty = false := by simpa using hbe
                obtain ⟨⟨f, okf⟩, hfr⟩ : ∃ R, readS y = R := ⟨_, rfl⟩
                have hrf : ∀ W : World, Calls Tryz.prog 18 #[.string ⟨y.toArray⟩] W fun r w' => r = .returned (.tuple #[f.val, .bool okf]) ∧ Below W.heap.size W w' := fun W => by
                  have := specReadField_any ⟨y.toArray⟩ W (by simp [ByteArray.size]; omega)
                  rw [show bL (⟨y.toArray⟩ : ByteArray) = y by simp [bL], hfr] at this; exact this
                have HFR := Lib.hid hfr; clear hfr hEb hEw hyq hym
                obtain ⟨fn, fk, frp, fp, fm⟩ := f
                simp only [Fld.val] at hrf
                go_wp2_with fail
                refine (hrf _).mono ?_
                rintro r w5 ⟨rfl, hb5⟩
                have hz5 := hb5.size
                have hM5 := (hb5.block M hMl).trans HMi.out
                have HV5 := Lib.hid (owns_below HVi.out hb5 (Nat.le_refl _)); have HW5 := Lib.hid (owns_below HWi.out hb5 (Nat.le_refl _))
                have hB5 : Below M w2 w5 := hbi.trans (hb5.mono (by omega))
                have kM := box_cells hM5; have fM := box_frozen hM5; have hMl5 := box_lt hM5
                have HM5 := Lib.hid hM5; clear hM5 hb5 q1i cy hrf
                cases okf
                · have hYn : Y = none := by rw [← HHY.out]; exact readAll_none (by rw [HFR.out])
                  have hmn : msgS x = none := by rw [HMS.out, hYn]; rfl
                  have hnone : Z = none := by rw [← HQ.out]; exact raws_none hmn
                  have hz3 : (RX, RB) = ([], false) := by rw [HRR.out, hnone]
                  simp only [Prod.mk.injEq] at hz3
                  obtain ⟨rfl, rfl⟩ := hz3
                  have hR5 := (hB5.block w.heap.size (by omega)).trans HR2.out
                  have kR := box_cells hR5 0; have fR := box_frozen hR5 0; have lR := box_lt hR5
                  simp only [List.getElem?_toArray, List.getElem?_cons_zero] at kR
                  have hT5 : Below w.heap.size w w5 := hT2.trans (hB5.mono (by omega))
                  have HR5 := Lib.hid hR5; clear hR5
                  go_wp2_with fail
                  refine bodyPost_ret (v := .tuple #[.agg #[.slice none 0 0], .bool false]) (by simp [results, Tryz.results5, go_sem, kR, lR]) rfl ⟨none, 0, [], rfl, OwnShs.nil _ _ _ _, ?_⟩
                  exact (hT5.setCell (Nat.le_refl _) _).alloc (by have := hT5.size; simp; omega) _
                · go_wp2_with (first | (at_builtin; refine wpList_append_own _ rfl _ _ 38 rfl (M + 1) 44 i0 _ 5 32 Tryz.underlying38 hi hF0 hF1 hF2 rfl (by decide) v' q (fs.flatMap Fld.cs) rfl (owns_below HV5.out (show Below w5.heap.size w5 _ from by ((repeat (first | (with_reducible exact Below.refl _ _) | (with_reducible assumption) | (with_reducible refine Below.alloc ?_ ?_ _) | (with_reducible refine Below.setCell ?_ ?_ _) | (with_reducible refine Below.drew ?_) | (with_reducible refine below_setRow ?_ ?_ _) | (refine Below.trans ?_ (Below.mono (by assumption) ?_)))); all_goals (first | omega | (simp; done) | (simp; omega)))) (Nat.le_refl _)) ⟨w5.heap.size + 1, 0, none⟩ 1 1 [.int .i64 fn, .int .i64 fk, .bool frp, .bool fp, .int .i64 fm] rfl rfl (World.news_of_block (cs := #[.int .i64 fn, .int .i64 fk, .bool frp, .bool fp, .int .i64 fm]) (t := 44) (fr := (0, 0)) (hset_new (by simp))) (by simp [Value.oneCell']) (by unfold maxLen; omega) (by omega) (by simp; omega) ?_; intro v2 w6 hown2 hgr2 _; obtain ⟨a5, cap5, rfl, _⟩ := own_sh hown2; have hsz2 := hgr2.size; simp only [World.size_alloc] at hsz2; have hM6 := (hgr2.block M (by simp; omega) (fun e => by have := (HV5.out.lt _ e.symm).1; omega)).trans (hset_alloc (hset_alloc HM5.out)); have kM6 := box_cells hM6; have fM6 := box_frozen hM6; have hMl6 := box_lt hM6; have HM6 := Lib.hid hM6; clear hM6 kM fM; have HG6 := Lib.hid hgr2; have HV6 := Lib.hid hown2; clear hgr2 hown2))
                  have hal : Below w5.heap.size w5 ((w5.alloc (.cells #[.int .i64 fn, .int .i64 fk, .bool frp, .bool fp, .int .i64 fm] 44)).alloc (.cells #[.int .i64 fn, .int .i64 fk, .bool frp, .bool fp, .int .i64 fm] 44)) := ((Below.refl _ _).alloc (Nat.le_refl _) _).alloc (by simp) _
                  have HV5a := Lib.hid (owns_below HV5.out hal (Nat.le_refl _)); have HW5a := Lib.hid (owns_below HW5.out hal (Nat.le_refl _))
                  have hB6 : Below M w2 w6 := below_grown (hB5.trans (hal.mono (by omega))) HG6.out (fun g e => by have := (HV5.out.lt g e).1; omega) (by simp; omega)
                  have hYn : (readAll (E.drop (q + 1))).map ((fs ++ [⟨fn, fk, frp, fp, fm⟩]) ++ ·) = Y := by rw [← HHY.out]; exact (readAll_step HFR.out).symm
                  have HYn := Lib.hid hYn; clear hYn hal
                  go_roundw
                  case rel =>
                    refine ⟨q + 1, by omega, by go_num, ⟨.slice a5 (q + 1) cap5, fs ++ [⟨fn, fk, frp, fp, fm⟩], ?_, ?_, by simp [hfl], HYn⟩, ?_, ?_, by simp; omega⟩
                    · apply hset_eq (hset_set HM6.out); simp only [List.setIfInBounds_toArray, List.set_cons_zero, List.set_cons_succ]
                    · rw [fld_snocR]; exact owns_keep HV6.out (only_set _ _ _ _) (other_box HM6.out (by decide))
                    · exact owns_keep (owns_keep HW5a.out HG6.out (other_own HV5a.out (by decide))) (only_set _ _ _ _) (other_box HM6.out (by decide))
                    · exact hB6.setCell (Nat.le_refl _) _
                  case measure => simp [intOf]; omega
              · have hqe : q = E.length := by omega
                obtain ⟨a4, cap4, rfl, _⟩ := own_sh HVi.out
                have hYs : Y = some fs := by rw [← HYi.out, hqe, List.drop_of_length_le (Nat.le_refl _)]; simp [readAll]
                have hms : msgS x = some ⟨id, fs⟩ := by rw [HMS.out, hYs]; rfl
                have hQn : (rawsS (ws.drop (k + 1))).map ((ys ++ [⟨id, fs⟩]) ++ ·) = Z := by rw [← HQ.out]; exact (raws_step hms).symm
                have HQn := Lib.hid hQn; clear hQn hms hYs
                have hOi := (hbi.block (w.heap.size + 1) (by omega)).trans HO2.out
                have hRi := (hbi.block w.heap.size (by omega)).trans HR2.out
                have kO := box_cells hOi 0; have fO := box_frozen hOi 0; have lO := box_lt hOi
                simp only [List.getElem?_toArray, List.getElem?_cons_zero] at kO
                have HOi := Lib.hid hOi; have HRi := Lib.hid hRi; clear hOi hRi
                have HSi := Lib.hid (HSo.out.below hbi (Nat.le_of_eq hM))
                have HRow := Lib.hid (show RowIs wi (w.heap.size + 1 + 1) 44 ⟨id, a4, q, cap4⟩ ⟨id, fs⟩ from ⟨rfl, by simp [hfl], owns_le HVi.out (by omega)⟩)
                have HAP := Lib.hid (fresh_apart (r := ⟨id, a4, q, cap4⟩) HSo.out (show w2.heap.size ≤ M + 1 by omega) HVi.out)
                have HWwi := Lib.hid (owns_below HW2.out hbi (Nat.le_of_eq hM))
                have hTi : Below w.heap.size w wi := hT2.trans (hbi.mono (by omega))
                have hk4 : k ≤ 4001 := by omega
                have hexit : ((q : Int) < (nw : Int) ∧ b.isEmpty = true) ∨ ((¬ (q : Int) < (nw : Int)) ∧ b.isEmpty = false) := by
                  have h1 := HEW.out
                  have h2 := HNW.out
                  by_cases hbe : b = []
                  · left
                    rw [wordsS, if_pos hbe] at h1
                    have : 0 < wd.length := by rw [← hwd]; exact List.length_pos_iff.2 (partsL_ne _ _)
                    rw [← h1] at hqe
                    exact ⟨by simp at hqe; omega, by rw [hbe]; rfl⟩
                  · right
                    rw [wordsS, if_neg hbe, hwd] at h1
                    rw [← h1] at hqe
                    exact ⟨by omega, by simpa using hbe⟩
                clear hfl hlq hqe
                have hqq : q ≤ E.length := hq
                rcases hexit with ⟨x1, x2⟩ | ⟨x1, x2⟩
                all_goals
                  go_wp2_with (first | (at_builtin; refine wpList_append_own _ rfl _ _ 22 rfl (w.heap.size + 1 + 1) 40 i1 _ 2 32 Tryz.underlying22 hj hj0 hj1 hj2 rfl (by decide) v k (rs.flatMap ShR.cs) rfl (HSi.out.alloc _).outer ⟨wi.heap.size, 0, none⟩ 1 1 [.int .i64 id, .slice a4 q cap4] rfl rfl (World.news_of_block (cs := #[.int .i64 id, .slice a4 q cap4]) (t := 40) (fr := (0, 0)) (hset_new rfl)) (by simp [Value.oneCell']) (by unfold maxLen; omega) (by omega) (by simp; omega) ?_; intro v2 w6 hown2 hgr2 _; obtain ⟨a5, cap5, rfl, _⟩ := own_sh hown2; have hsz2 := hgr2.size; simp only [World.size_alloc] at hsz2; have HP := Lib.hid ((HSi.out.alloc _).push (w' := w6) (by decide) (HRow.out.alloc _) HAP.out hown2 hgr2); have hO6 := (hgr2.block (w.heap.size + 1) (by simp; omega) (fun e => by have := (HSi.out.outer.lt _ e.symm).1; omega)).trans (hset_alloc HOi.out); have kO6 := box_cells hO6 0; have fO6 := box_frozen hO6 0; have lO6 := box_lt hO6; simp only [List.getElem?_toArray, List.getElem?_cons_zero] at kO6; have HO6 := Lib.hid hO6; have HG6 := Lib.hid hgr2; clear hO6 hown2 hgr2 kO fO))
                  have hR6 := (HG6.out.block w.heap.size (by simp; omega) (fun e => by have := (HSi.out.outer.lt _ e.symm).1; omega)).trans (hset_alloc HRi.out)
                  have hB6 : Below w.heap.size w w6 := below_grown (hTi.alloc (by omega) _) HG6.out (fun g e => by have := (HSi.out.outer.lt g e).1; omega) (by simp; omega)
                  have HWw := Lib.hid (owns_keep (owns_below HWwi.out (show Below wi.heap.size wi (wi.alloc (.cells #[.int .i64 id, .slice a4 q cap4] 40)) from (Below.refl _ _).alloc (Nat.le_refl _) _) (Nat.le_refl _)) HG6.out (other_own (HSi.out.alloc _).outer (by decide)))
                  go_roundw
                  case rel =>
                    refine ⟨k + 1, by omega, by go_num, ⟨.slice a5 (k + 1) cap5, rs ++ [⟨id, a4, q, cap4⟩], ys ++ [⟨id, fs⟩], ?_, ?_, HQn⟩, ?_, ?_, ?_⟩
                    · exact HP.out.set (by simp) _
                    · exact hset_same HO6.out rfl
                    · exact hset_other hR6 (by simp)
                    · exact owns_keep HWw.out (only_set _ _ _ _) (other_box HO6.out (by decide))
                    · exact hB6.setCell (by simp) _
                  case measure => simp [intOf]; omega
          · have hnone : Z = none := by rw [← HQ.out]; exact raws_none (msgS_bad (by rw [h2]; exact hl2))
            have hz3 : (RX, RB) = ([], false) := by rw [HRR.out, hnone]
            simp only [Prod.mk.injEq] at hz3
            obtain ⟨rfl, rfl⟩ := hz3
            have kR := box_cells hR2 0; have fR := box_frozen hR2 0; have lR := box_lt hR2
            simp only [List.getElem?_toArray, List.getElem?_cons_zero] at kR
            have hl2i : ¬ (two.length : Int) = 2 := by omega
            have HR2 := Lib.hid hR2; have HO2 := Lib.hid hO2; clear hR2 hO2 ho2 hb2 c0
            go_wp2_with fail
            refine bodyPost_ret (v := .tuple #[.agg #[.slice none 0 0], .bool false]) (by simp [results, Tryz.results5, go_sem, kR, lR]) rfl ⟨none, 0, [], rfl, OwnShs.nil _ _ _ _, hT2.setCell (Nat.le_refl _) _⟩
        · obtain rfl : k = n := by omega
          obtain ⟨a2, cap2, rfl, _⟩ := own_sh HO.out.outer
          have hZ2 : Z = some ys := by rw [← hq.out, List.drop_of_length_le (by rw [HN.out]; exact Nat.le_refl _)]; simp [rawsS]
          obtain ⟨hn2, hm2⟩ := HSZ.out ys hZ2
          obtain ⟨G, hG⟩ : ∃ G, rawTextL ys = G := ⟨_, rfl⟩
          have hcall : ∀ W, ShsL W a2 ys → Calls Tryz.prog 19 #[.agg #[.slice a2 k cap2]] W fun r w' => r = .returned (.string ⟨G.toArray⟩) ∧ Below W.heap.size W w' := fun W hW => by
            have := specRawText_any a2 cap2 k ys W hW HO.out.lenx (by omega) (by omega)
            rw [sB, hG] at this; exact this
          clear hq
          go_wp2_with fail
          refine (hcall _ HO.out.shsL).mono ?_
          rintro r w2 ⟨rfl, hb2⟩
          have hR2 := (hb2.block w.heap.size (by omega)).trans HRx.out
          have hO2 := (hb2.block (w.heap.size + 1) hOl).trans HOx.out
          have hT2 : Below w.heap.size w w2 := hb.trans (hb2.mono hz)
          have hs2 := OwnShs.below HO.out hb2 (Nat.le_refl _)
          have kO2 := box_cells hO2 0; have fO2 := box_frozen hO2 0; have kR2 := box_cells hR2 0; have fR2 := box_frozen hR2 0; have lR := box_lt hR2
          simp only [List.getElem?_toArray, List.getElem?_cons_zero] at kO2 kR2
          have HS2 := Lib.hid hs2; clear hs2 hcall kO fO kR fR hR2 hO2
          by_cases heq : G = bL s
          · have hRR2 : (RX, RB) = (ys, true) := by rw [HRR.out, hZ2]; simp only; rw [if_pos (by rw [hG, heq])]
            simp only [Prod.mk.injEq] at hRR2
            obtain ⟨rfl, rfl⟩ := hRR2
            have e1 : ((⟨G.toArray⟩ : ByteArray).toList == s.toList) = true := by rw [heq, ← str_of_bL]; simp
            have e2 : (G == s.toList) = true := by rw [ByteArray.toList_eq, heq]; simp [bL]
            clear heq hG
            go_wp2_with fail
            rw [HO.out.lenx]
            refine bodyPost_ret (v := .tuple #[.agg #[.slice a2 k cap2], .bool true]) (by simp [results, Tryz.results5, go_sem, kR2, lR]) rfl ⟨a2, cap2, rs, rfl, OwnShs.le (HS2.out.set (p := ⟨w.heap.size, 0, none⟩) (by simp only; omega) _) (by omega), hT2.setCell (Nat.le_refl _) _⟩
          · have hRR2 : (RX, RB) = ([], false) := by rw [HRR.out, hZ2]; simp only; rw [if_neg (by rw [hG]; exact heq)]
            simp only [Prod.mk.injEq] at hRR2
            obtain ⟨rfl, rfl⟩ := hRR2
            have e1 : ((⟨G.toArray⟩ : ByteArray).toList == s.toList) = false := by rw [beq_bytes, decide_eq_false]; intro e; apply heq; have := congrArg bL e; simpa [bL] using this
            have e2 : (G == s.toList) = false := by rw [ByteArray.toList_eq, beq_eq_false_iff_ne]; exact heq
            clear heq hG
            go_wp2_with fail
            refine bodyPost_ret (v := .tuple #[.agg #[.slice none 0 0], .bool false]) (by simp [results, Tryz.results5, go_sem, kR2, lR]) rfl ⟨none, 0, [], rfl, OwnShs.nil _ _ _ _, hT2.setCell (Nat.le_refl _) _⟩
theorem implCut_any (x : List UInt8) (w : World) (hw : TxtW w) (hx : x.length ≤ 1048576) :
    Calls Tryz.prog 21 #[.string ⟨x.toArray⟩, .string ⟨#[58]⟩] w fun r w' => r = .returned (.tuple #[.string ⟨(Lib.cut x [58]).1.toArray⟩, .string ⟨(Lib.cut x [58]).2.1.toArray⟩, .bool (Lib.cut x [58]).2.2]) ∧ Below w.heap.size w w' := by
  obtain ⟨m, hm⟩ := hw.max
  refine (Tryz.strings_Cut ⟨x.toArray⟩ ⟨#[58]⟩ m w (by simp [ByteArray.size]; omega) hm).mono ?_
  rintro r w' ⟨rfl, n, rfl⟩
  exact ⟨rfl, ⟨rfl, rfl, rfl, Nat.le_refl _, fun _ _ => rfl⟩⟩
theorem msgI_take {ws : List (List UInt8)} {k : Nat} {x : List UInt8} (hx : ws[k]? = some x) : (ws.take (k + 1)).map msgI = (ws.take k).map msgI ++ [msgI x] := by
  rw [List.take_add_one, hx]; simp
theorem readI_take {ws : List (List UInt8)} {k : Nat} {x : List UInt8} (hx : ws[k]? = some x) : ((ws.take (k + 1)).map fun t => (readI t).1).flatMap Fld.cs = ((ws.take k).map fun t => (readI t).1).flatMap Fld.cs ++ (readI x).1.cs := by
  rw [List.take_add_one, hx]; simp
set_option maxRecDepth 100000 in
set_option maxHeartbeats 8000000 in
theorem implReadRaw_any (s : ByteArray) (w : World) (hw : TxtW w) (hs : s.size ≤ 1048576) :
    Calls Tryz.prog 6 #[.string s] w (FreshRd w (rawI (bL s)).1.length (rawI (bL s)).1 (rawI (bL s)).2) := by
  have HW := Lib.hid hw; clear hw
  obtain ⟨⟨RX, RB⟩, hR⟩ : ∃ R, rawI (bL s) = R := ⟨_, rfl⟩
  rw [hR]
  have HR := Lib.hid hR; clear hR
  simp only
  by_cases h0 : s.size = 0
  · have hl0 : bL s = [] := List.length_eq_zero_iff.1 (by rw [bL_len]; exact h0)
    have hz : (RX, RB) = ([], true) := by rw [← HR.out, rawI, if_pos hl0]
    simp only [Prod.mk.injEq] at hz
    obtain ⟨rfl, rfl⟩ := hz
    have hse : s.toList = [] := by rw [ByteArray.toList_eq]; exact List.length_eq_zero_iff.1 (by rw [Array.length_toList]; exact h0)
    clear HR h0 hl0
    go_enter Tryz.func6, Tryz.ntmps6
    go_wp2_with fail
    refine bodyPost_ret (v := .tuple #[.agg #[.slice none 0 0], .bool true]) (by simp [results, Tryz.results6, go_sem]) rfl ⟨none, 0, [], rfl, OwnShs.nil _ _ _ _, by ((repeat (first | (with_reducible exact Below.refl _ _) | (with_reducible assumption) | (with_reducible refine Below.alloc ?_ ?_ _) | (with_reducible refine Below.setCell ?_ ?_ _) | (with_reducible refine Below.drew ?_) | (with_reducible refine below_setRow ?_ ?_ _) | (refine Below.trans ?_ (Below.mono (by assumption) ?_)))); all_goals (first | omega | (simp; done) | (simp; omega)))⟩
  · have hl0 : bL s ≠ [] := fun e => h0 (by rw [← bL_len, e]; rfl)
    have hse : ¬ s.toList = [] := by
      rw [ByteArray.toList_eq]; intro e
      have := congrArg List.length e
      rw [Array.length_toList] at this
      exact h0 this
    have hse2 : s.toList.isEmpty = false := by simpa using hse
    obtain ⟨ws, hws⟩ : ∃ ws, splitL 7 (bL s) 59 = ws := ⟨_, rfl⟩
    have hwl : ws.length ≤ 7 := by rw [← hws]; exact splitL_num (by omega)
    have hwx : ∀ x ∈ ws, x.length ≤ 1048576 := by
      rw [← hws]; intro x hx
      have := splitL_le hx
      rw [bL_len] at this; omega
    have hRR : (RX, RB) = if rawTextL (ws.map msgI) = bL s then (ws.map msgI, true) else ([], false) := by rw [← HR.out, rawI, if_neg hl0, hws]
    have hsz : fldSum (ws.map msgI) ≤ 1048576 := by rw [← hws]; exact (rawsI_size _).2
    have hparts : ∀ W : World, TxtW W → Calls Tryz.prog 20 #[.string s, .string ⟨#[59]⟩, .int .i64 7] W (FreshStrs W ws) := fun W hW => by
      have := implSplit_any s 59 7 W hW hs (by omega) (by omega)
      rw [hws] at this; exact this
    have HRR := Lib.hid hRR; have HWX := Lib.hid hwx; clear hRR HR hwx hws h0 hl0
    obtain ⟨n, hn⟩ : ∃ n, ws.length = n := ⟨_, rfl⟩
    have hn7 : n ≤ 7 := by omega
    obtain ⟨i0, hi, hF0, hF1, hF2⟩ := info_parts info_RrF
    obtain ⟨i1, hj, hj0, hj1, hj2⟩ := info_parts info_RrM
    go_enter Tryz.func6, Tryz.ntmps6
    go_wp2_with fail
    refine (hparts _ (HW.out.keep (by ((repeat (first | (with_reducible exact Below.refl _ _) | (with_reducible assumption) | (with_reducible refine Below.alloc ?_ ?_ _) | (with_reducible refine Below.setCell ?_ ?_ _) | (with_reducible refine Below.drew ?_) | (with_reducible refine below_setRow ?_ ?_ _) | (refine Below.trans ?_ (Below.mono (by assumption) ?_)))); all_goals (first | omega | (simp; done) | (simp; omega)))))).mono ?_
    rintro r w1 ⟨g, cap, rfl, ho, hb1⟩
    have hz1' := hb1.size
    simp only [World.size_alloc] at hz1' ho
    have hR_ : w1.heap[w.heap.size]? = some (.cells #[.slice none 0 0] 24 (0, 0)) := (hb1.block _ (by simp; omega)).trans (hset_alloc (hset_new rfl))
    have hO_ : w1.heap[w.heap.size + 1]? = some (.cells #[.slice none 0 0] 24 (0, 0)) := (hb1.block _ (by simp)).trans (hset_new (by simp))
    have hbw : Below w.heap.size w w1 := (((Below.refl _ _).alloc (Nat.le_refl _) _).alloc (by simp) _).trans (hb1.mono (by simp; omega))
    rw [hn] at ho ⊢
    have HN := Lib.hid hn
    clear hb1 hparts
    go_wp2_with fail
    go_loopw [24] (fun i wr => ∃ k : Nat, k ≤ n ∧ i = .int .i64 k ∧ (∃ v rs, OwnShs wr (w.heap.size + 1 + 1) 40 44 v k rs ((ws.take k).map msgI) ∧ wr.heap[w.heap.size + 1]? = some (.cells #[v] 24 (0, 0))) ∧ wr.heap[w.heap.size]? = some (.cells #[.slice none 0 0] 24 (0, 0)) ∧ wr.ownsRow (w.heap.size + 1 + 1) 9 1 (.slice (some ⟨g, 0, none⟩) n cap) n (strRowP ws) ∧ Below w.heap.size w wr) (fun i _ => n - (intOf i).toNat)
    case atStart => exact ⟨0, Nat.zero_le _, rfl, ⟨.slice none 0 0, [], OwnShs.nil _ _ _ _, hO_⟩, hR_, ho, hbw⟩
    case round =>
      clear hO_ hR_ ho hbw
      obtain ⟨k, hk, rfl, ⟨v, rs, ho, hO⟩, hR, hrow, hb⟩ := hrel
      have hz := hb.size
      have hOl := box_lt hO
      have kO := box_cells hO 0; have fO := box_frozen hO 0; have kR := box_cells hR 0; have fR := box_frozen hR 0
      simp only [List.getElem?_toArray, List.getElem?_cons_zero] at kO kR
      have HO := Lib.hid ho; have HOx := Lib.hid hO; have HRx := Lib.hid hR; have HWS := Lib.hid hrow; clear ho hO hR hrow
      by_cases hlt : k < n
      · obtain ⟨x, hx, hxm⟩ := at_lt (xs := ws) (k := k) (by rw [HN.out]; exact hlt)
        have hgl := (HWS.out.lt g rfl).2
        have c0 : wr.cell? ⟨g, k, none⟩ = some (.string ⟨x.toArray⟩) := own_cell HWS.out hx
        have hxl := HWX.out x hxm
        obtain ⟨wo, hwo⟩ : ∃ wo : World, wo = wr := ⟨_, rfl⟩
        rw [← hwo] at HO HOx HRx HWS hb hz hOl kO fO kR fR hgl c0 ⊢
        clear hwo
        have HXk := Lib.hid hx; clear hx hxm
        obtain ⟨⟨a, b, c⟩, hab⟩ : ∃ R, Lib.cut x [58] = R := ⟨_, rfl⟩
        have hcut : ∀ W : World, TxtW W → Calls Tryz.prog 21 #[.string ⟨x.toArray⟩, .string ⟨#[58]⟩] W fun r w' => r = .returned (.tuple #[.string ⟨a.toArray⟩, .string ⟨b.toArray⟩, .bool c]) ∧ Below W.heap.size W w' := fun W hW => by
          have := implCut_any x W hW hxl
          rw [hab] at this; exact this
        have hle := cut_le x
        rw [hab] at hle
        obtain ⟨hal, hbl⟩ : a.length ≤ 1048576 ∧ b.length ≤ 1048576 := ⟨Nat.le_trans hle.1 hxl, Nat.le_trans hle.2 hxl⟩
        have hmsg : msgI x = ⟨numD a, (wordsI b).map fun t => (readI t).1⟩ := by rw [msgI, hab]
        obtain ⟨id, hid⟩ : ∃ id, numD a = id := ⟨_, rfl⟩
        have hnum : ∀ W : World, TxtW W → Calls Tryz.prog 22 #[.string ⟨a.toArray⟩] W fun r w' => r = .returned (.tuple #[.int .i64 id, .bool (numUpto 999999999 a).isSome]) ∧ Below W.heap.size W w' := fun W hW => by
          have := implNumber_any ⟨a.toArray⟩ W hW.num (by simp [ByteArray.size]; omega)
          rw [← hid]; exact this
        rw [hid] at hmsg
        have HMS := Lib.hid hmsg
        clear hmsg hab hle hid
        have hlc : (k : Int) < (n : Int) := by omega
        go_wp2_with fail
        refine (hcut _ (HW.out.keep hb)).mono ?_
        rintro r w2 ⟨rfl, hb2⟩
        have hT2 : Below w.heap.size w w2 := hb.trans (hb2.mono hz)
        go_wp2_with fail
        refine (hnum _ (HW.out.keep hT2)).mono ?_
        rintro r w3 ⟨rfl, hb3⟩
        have hT3 : Below w.heap.size w w3 := hT2.trans (hb3.mono hT2.size)
        have hb03 : Below wo.heap.size wo w3 := hb2.trans (hb3.mono hb2.size)
        have hz3 := hb03.size
        have hR3 := (hb03.block w.heap.size (by omega)).trans HRx.out
        have hO3 := (hb03.block (w.heap.size + 1) hOl).trans HOx.out
        have HR3 := Lib.hid hR3; have HO3 := Lib.hid hO3
        have HS3 := Lib.hid (HO.out.below hb03 (Nat.le_refl _)); have HW3 := Lib.hid (owns_below HWS.out hb03 (Nat.le_refl _))
        obtain ⟨M, hM⟩ : ∃ M, w3.heap.size = M := ⟨_, rfl⟩
        clear hR3 hO3 hb2 hb3 hcut hnum c0 kO fO kR fR HOx HRx HO HWS hgl
        have hOM : w.heap.size + 1 < M := by omega
        by_cases hbe : b = []
        · have e4 : b.isEmpty = true := by rw [hbe]; rfl
          have hE : wordsI b = [] := by rw [wordsI, if_pos hbe]
          have HEm := Lib.hid (show msgI x = ⟨id, []⟩ by rw [HMS.out, hE]; rfl)
          clear hE hbe
          go_upto_region 17 with fail
          obtain ⟨wi, hwi⟩ : ∃ wi, w3.alloc (.cells #[.int .i64 id, .slice none 0 0] 40) = wi := ⟨_, rfl⟩
          have hbi : Below M w3 wi := by rw [← hwi]; exact (Below.refl _ _).alloc (Nat.le_of_eq hM.symm) _
          have hMi : wi.heap[M]? = some (.cells #[.int .i64 id, .slice none 0 0] 40 (0, 0)) := by rw [← hwi]; exact hset_new hM.symm
          have HVi : Hid (wi.ownsRow (M + 1) 44 5 (.slice none 0 0) 0 (([] : List Fld).flatMap Fld.cs)) := Lib.hid (World.ownsRow_nil _ _ _ _)
          have kM := box_cells hMi; have fM := box_frozen hMi; have hMl := box_lt hMi
          have HMi := Lib.hid hMi; clear hMi
          rw [hwi]
          clear hwi
          have hOi := (hbi.block (w.heap.size + 1) (by omega)).trans HO3.out
          have hRi := (hbi.block w.heap.size (by omega)).trans HR3.out
          have kO := box_cells hOi 0; have fO := box_frozen hOi 0; have lO := box_lt hOi
          simp only [List.getElem?_toArray, List.getElem?_cons_zero] at kO
          have HOi := Lib.hid hOi; have HRi := Lib.hid hRi; clear hOi hRi
          have HSi := Lib.hid (HS3.out.below hbi (Nat.le_of_eq hM))
          have HRow := Lib.hid (show RowIs wi (w.heap.size + 1 + 1) 44 ⟨id, none, 0, 0⟩ (msgI x) from by rw [HEm.out]; exact ⟨rfl, rfl, owns_le HVi.out (by omega)⟩)
          have HAP := Lib.hid (fresh_apart (r := ⟨id, none, 0, 0⟩) HS3.out (show w3.heap.size ≤ M + 1 by omega) HVi.out)
          have HWwi := Lib.hid (owns_below HW3.out hbi (Nat.le_of_eq hM))
          have hTi : Below w.heap.size w wi := hT3.trans (hbi.mono (by omega))
          go_wp2_with (first | (at_builtin; refine wpList_append_own _ rfl _ _ 22 rfl (w.heap.size + 1 + 1) 40 i1 _ 2 32 Tryz.underlying22 hj hj0 hj1 hj2 rfl (by decide) v k (rs.flatMap ShR.cs) rfl (HSi.out.alloc _).outer ⟨wi.heap.size, 0, none⟩ 1 1 [.int .i64 id, .slice none 0 0] rfl rfl (World.news_of_block (cs := #[.int .i64 id, .slice none 0 0]) (t := 40) (fr := (0, 0)) (hset_new rfl)) (by simp [Value.oneCell']) (by unfold maxLen; omega) (by omega) (by simp; omega) ?_; intro v2 w6 hown2 hgr2 _; obtain ⟨a5, cap5, rfl, _⟩ := own_sh hown2; have hsz2 := hgr2.size; simp only [World.size_alloc] at hsz2; have HP := Lib.hid ((HSi.out.alloc _).push (w' := w6) (by decide) (HRow.out.alloc _) HAP.out hown2 hgr2); have hO6 := (hgr2.block (w.heap.size + 1) (by simp; omega) (fun e => by have := (HSi.out.outer.lt _ e.symm).1; omega)).trans (hset_alloc HOi.out); have kO6 := box_cells hO6 0; have fO6 := box_frozen hO6 0; have lO6 := box_lt hO6; simp only [List.getElem?_toArray, List.getElem?_cons_zero] at kO6; have HO6 := Lib.hid hO6; have HG6 := Lib.hid hgr2; clear hO6 hown2 hgr2 kO fO))
          have hR6 := (HG6.out.block w.heap.size (by simp; omega) (fun e => by have := (HSi.out.outer.lt _ e.symm).1; omega)).trans (hset_alloc HRi.out)
          have hB6 : Below w.heap.size w w6 := below_grown (hTi.alloc (by omega) _) HG6.out (fun g e => by have := (HSi.out.outer.lt g e).1; omega) (by simp; omega)
          have HWw := Lib.hid (owns_keep (owns_below HWwi.out (show Below wi.heap.size wi (wi.alloc (.cells #[.int .i64 id, .slice none 0 0] 40)) from (Below.refl _ _).alloc (Nat.le_refl _) _) (Nat.le_refl _)) HG6.out (other_own (HSi.out.alloc _).outer (by decide)))
          go_roundw
          case rel =>
            refine ⟨k + 1, by omega, by go_num, ⟨.slice a5 (k + 1) cap5, rs ++ [⟨id, none, 0, 0⟩], ?_, ?_⟩, ?_, ?_, ?_⟩
            · rw [msgI_take HXk.out]; exact HP.out.set (by simp) _
            · exact hset_same HO6.out rfl
            · exact hset_other hR6 (by simp)
            · exact owns_keep HWw.out (only_set _ _ _ _) (other_box HO6.out (by decide))
            · exact hB6.setCell (by simp) _
          case measure => simp [intOf]; omega
        · have e4 : b.isEmpty = false := by simpa using hbe
          obtain ⟨E, hE⟩ : ∃ E, wordsI b = E := ⟨_, rfl⟩
          have hEs : splitL 9 b 44 = E := by rw [← hE, wordsI, if_neg hbe]
          have hE9 : E.length ≤ 9 := by rw [← hE]; exact wordsI_num b
          have hEx : ∀ y ∈ E, y.length ≤ 1048576 := fun y hy => by rw [← hE] at hy; exact Nat.le_trans (wordsI_le hy) hbl
          have HEm := Lib.hid (show msgI x = ⟨id, E.map fun t => (readI t).1⟩ by rw [HMS.out, hE])
          have HEX := Lib.hid hEx
          have hp4 : ∀ W : World, TxtW W → Calls Tryz.prog 20 #[.string ⟨b.toArray⟩, .string ⟨#[44]⟩, .int .i64 9] W (FreshStrs W E) := fun W hW => by
            have := implSplit_any ⟨b.toArray⟩ 44 9 W hW (by simp [ByteArray.size]; omega) (by omega) (by omega)
            rw [show bL (⟨b.toArray⟩ : ByteArray) = b by simp [bL], hEs] at this; exact this
          clear hE hEs hEx hbe
          have hbM : Below M w3 (w3.alloc (.cells #[.int .i64 id, .slice none 0 0] 40)) := (Below.refl _ _).alloc (Nat.le_of_eq hM.symm) _
          go_wp2_with fail
          refine (hp4 _ (HW.out.keep (hT3.trans (hbM.mono (by omega))))).mono ?_
          rintro r w4 ⟨g3, cap3, rfl, ho4, hb4⟩
          have hz4 := hb4.size
          simp only [World.size_alloc] at hz4 ho4
          have hM4 := (hb4.block M (by simp; omega)).trans (hset_new (o := .cells #[.int .i64 id, .slice none 0 0] 40 (0, 0)) hM.symm)
          have hB4 : Below M w3 w4 := hbM.trans (hb4.mono (by simp; omega))
          have hq4 := owns_le ho4 (show M + 1 ≤ w3.heap.size + 1 by omega)
          obtain ⟨nw, hnw⟩ : ∃ nw, E.length = nw := ⟨_, rfl⟩
          rw [hnw] at hq4 ⊢
          have HNW := Lib.hid hnw
          have hnw9 : nw ≤ 9 := by omega
          clear hb4 ho4 hp4 hbM
          go_wp2_with fail
          go_loopw [46] (fun j wi => ∃ q : Nat, q ≤ nw ∧ j = .int .i64 q ∧ (∃ v', wi.heap[M]? = some (.cells #[.int .i64 id, v'] 40 (0, 0)) ∧ wi.ownsRow (M + 1) 44 5 v' q (((E.take q).map fun t => (readI t).1).flatMap Fld.cs)) ∧ wi.ownsRow (M + 1) 9 1 (.slice (some ⟨g3, 0, none⟩) nw cap3) nw (strRowP E) ∧ Below M w3 wi ∧ M < wi.heap.size) (fun j _ => nw - (intOf j).toNat)
          case atStart => exact ⟨0, Nat.zero_le _, rfl, ⟨.slice none 0 0, hM4, World.ownsRow_nil _ _ _ _⟩, hq4, hB4, by omega⟩
          case round =>
            clear hM4 hq4 hB4
            obtain ⟨q, hq, rfl, ⟨v', hM', ho'⟩, hrow', hbi, hMl⟩ := hrel
            obtain ⟨wi, hwi⟩ : ∃ wi : World, wi = wr := ⟨_, rfl⟩
            rw [← hwi] at hM' ho' hrow' hbi hMl ⊢
            clear hwi
            have kM := box_cells hM'; have fM := box_frozen hM'
            have hzi := hbi.size
            have hg3 := (hrow'.lt g3 rfl).2
            have hg3M := (hrow'.lt g3 rfl).1
            have HMi := Lib.hid hM'; have HVi := Lib.hid ho'; have HWi := Lib.hid hrow'; clear hM' ho' hrow'
            by_cases hlq : q < nw
            · obtain ⟨y, hyq, hym⟩ := at_lt (xs := E) (k := q) (by rw [HNW.out]; exact hlq)
              have cy : wi.cell? ⟨g3, q, none⟩ = some (.string ⟨y.toArray⟩) := own_cell HWi.out hyq
              have hyl : y.length ≤ 1048576 := HEX.out y hym
              have HYq := Lib.hid hyq; clear hyq hym
              have hqn : (q : Int) < (nw : Int) := by omega
              obtain ⟨⟨f, okf⟩, hfr⟩ : ∃ R, readI y = R := ⟨_, rfl⟩
              have hrf : ∀ W : World, TxtW W → Calls Tryz.prog 23 #[.string ⟨y.toArray⟩] W fun r w' => r = .returned (.tuple #[f.val, .bool okf]) ∧ Below W.heap.size W w' := fun W hW => by
                have := implReadField_any ⟨y.toArray⟩ W hW (by simp [ByteArray.size]; omega)
                rw [show bL (⟨y.toArray⟩ : ByteArray) = y by simp [bL], hfr] at this; exact this
              have HFR := Lib.hid hfr; clear hfr
              obtain ⟨fn, fk, frp, fp, fm⟩ := f
              simp only [Fld.val] at hrf
              go_wp2_with fail
              refine (hrf _ (HW.out.keep (hT3.trans (hbi.mono (by omega))))).mono ?_
              rintro r w5 ⟨rfl, hb5⟩
              have hz5 := hb5.size
              have hM5 := (hb5.block M hMl).trans HMi.out
              have HV5 := Lib.hid (owns_below HVi.out hb5 (Nat.le_refl _)); have HW5 := Lib.hid (owns_below HWi.out hb5 (Nat.le_refl _))
              have hB5 : Below M w3 w5 := hbi.trans (hb5.mono (by omega))
              have kM := box_cells hM5; have fM := box_frozen hM5; have hMl5 := box_lt hM5
              have HM5 := Lib.hid hM5; clear hM5 hb5 cy hrf
              go_wp2_with (first | (at_builtin; refine wpList_append_own _ rfl _ _ 38 rfl (M + 1) 44 i0 _ 5 32 Tryz.underlying38 hi hF0 hF1 hF2 rfl (by decide) v' q (((E.take q).map fun t => (readI t).1).flatMap Fld.cs) rfl (owns_below HV5.out (show Below w5.heap.size w5 _ from by ((repeat (first | (with_reducible exact Below.refl _ _) | (with_reducible assumption) | (with_reducible refine Below.alloc ?_ ?_ _) | (with_reducible refine Below.setCell ?_ ?_ _) | (with_reducible refine Below.drew ?_) | (with_reducible refine below_setRow ?_ ?_ _) | (refine Below.trans ?_ (Below.mono (by assumption) ?_)))); all_goals (first | omega | (simp; done) | (simp; omega)))) (Nat.le_refl _)) ⟨w5.heap.size + 1, 0, none⟩ 1 1 [.int .i64 fn, .int .i64 fk, .bool frp, .bool fp, .int .i64 fm] rfl rfl (World.news_of_block (cs := #[.int .i64 fn, .int .i64 fk, .bool frp, .bool fp, .int .i64 fm]) (t := 44) (fr := (0, 0)) (hset_new (by simp))) (by simp [Value.oneCell']) (by unfold maxLen; omega) (by omega) (by simp; omega) ?_; intro v2 w6 hown2 hgr2 _; obtain ⟨a5, cap5, rfl, _⟩ := own_sh hown2; have hsz2 := hgr2.size; simp only [World.size_alloc] at hsz2; have hM6 := (hgr2.block M (by simp; omega) (fun e => by have := (HV5.out.lt _ e.symm).1; omega)).trans (hset_alloc (hset_alloc HM5.out)); have kM6 := box_cells hM6; have fM6 := box_frozen hM6; have hMl6 := box_lt hM6; have HM6 := Lib.hid hM6; clear hM6 kM fM; have HG6 := Lib.hid hgr2; have HV6 := Lib.hid hown2; clear hgr2 hown2))
              have hal : Below w5.heap.size w5 ((w5.alloc (.cells #[.int .i64 fn, .int .i64 fk, .bool frp, .bool fp, .int .i64 fm] 44)).alloc (.cells #[.int .i64 fn, .int .i64 fk, .bool frp, .bool fp, .int .i64 fm] 44)) := ((Below.refl _ _).alloc (Nat.le_refl _) _).alloc (by simp) _
              have HV5a := Lib.hid (owns_below HV5.out hal (Nat.le_refl _)); have HW5a := Lib.hid (owns_below HW5.out hal (Nat.le_refl _))
              have hB6 : Below M w3 w6 := below_grown (hB5.trans (hal.mono (by omega))) HG6.out (fun g e => by have := (HV5.out.lt g e).1; omega) (by simp; omega)
              clear hal
              go_roundw
              case rel =>
                refine ⟨q + 1, by omega, by go_num, ⟨.slice a5 (q + 1) cap5, ?_, ?_⟩, ?_, ?_, by simp; omega⟩
                · apply hset_eq (hset_set HM6.out); simp only [List.setIfInBounds_toArray, List.set_cons_zero, List.set_cons_succ]
                · rw [readI_take HYq.out, HFR.out]; exact owns_keep HV6.out (only_set _ _ _ _) (other_box HM6.out (by decide))
                · exact owns_keep (owns_keep HW5a.out HG6.out (other_own HV5a.out (by decide))) (only_set _ _ _ _) (other_box HM6.out (by decide))
                · exact hB6.setCell (Nat.le_refl _) _
              case measure => simp [intOf]; omega
            · obtain rfl : q = nw := by omega
              obtain ⟨a4, cap4, rfl, _⟩ := own_sh HVi.out
              have hOi := (hbi.block (w.heap.size + 1) (by omega)).trans HO3.out
              have hRi := (hbi.block w.heap.size (by omega)).trans HR3.out
              have kO := box_cells hOi 0; have fO := box_frozen hOi 0; have lO := box_lt hOi
              simp only [List.getElem?_toArray, List.getElem?_cons_zero] at kO
              have HOi := Lib.hid hOi; have HRi := Lib.hid hRi; clear hOi hRi
              have HSi := Lib.hid (HS3.out.below hbi (Nat.le_of_eq hM))
              have HRow := Lib.hid (show RowIs wi (w.heap.size + 1 + 1) 44 ⟨id, a4, q, cap4⟩ (msgI x) from by rw [HEm.out]; exact ⟨rfl, by rw [List.length_map, HNW.out], by have h0 := HVi.out; rw [List.take_of_length_le (by rw [HNW.out]; exact Nat.le_refl _)] at h0; exact owns_le h0 (by omega)⟩)
              have HAP := Lib.hid (fresh_apart (r := ⟨id, a4, q, cap4⟩) HS3.out (show w3.heap.size ≤ M + 1 by omega) HVi.out)
              have HWwi := Lib.hid (owns_below HW3.out hbi (Nat.le_of_eq hM))
              have hTi : Below w.heap.size w wi := hT3.trans (hbi.mono (by omega))
              go_wp2_with (first | (at_builtin; refine wpList_append_own _ rfl _ _ 22 rfl (w.heap.size + 1 + 1) 40 i1 _ 2 32 Tryz.underlying22 hj hj0 hj1 hj2 rfl (by decide) v k (rs.flatMap ShR.cs) rfl (HSi.out.alloc _).outer ⟨wi.heap.size, 0, none⟩ 1 1 [.int .i64 id, .slice a4 q cap4] rfl rfl (World.news_of_block (cs := #[.int .i64 id, .slice a4 q cap4]) (t := 40) (fr := (0, 0)) (hset_new rfl)) (by simp [Value.oneCell']) (by unfold maxLen; omega) (by omega) (by simp; omega) ?_; intro v2 w6 hown2 hgr2 _; obtain ⟨a5, cap5, rfl, _⟩ := own_sh hown2; have hsz2 := hgr2.size; simp only [World.size_alloc] at hsz2; have HP := Lib.hid ((HSi.out.alloc _).push (w' := w6) (by decide) (HRow.out.alloc _) HAP.out hown2 hgr2); have hO6 := (hgr2.block (w.heap.size + 1) (by simp; omega) (fun e => by have := (HSi.out.outer.lt _ e.symm).1; omega)).trans (hset_alloc HOi.out); have kO6 := box_cells hO6 0; have fO6 := box_frozen hO6 0; have lO6 := box_lt hO6; simp only [List.getElem?_toArray, List.getElem?_cons_zero] at kO6; have HO6 := Lib.hid hO6; have HG6 := Lib.hid hgr2; clear hO6 hown2 hgr2 kO fO))
              have hR6 := (HG6.out.block w.heap.size (by simp; omega) (fun e => by have := (HSi.out.outer.lt _ e.symm).1; omega)).trans (hset_alloc HRi.out)
              have hB6 : Below w.heap.size w w6 := below_grown (hTi.alloc (by omega) _) HG6.out (fun g e => by have := (HSi.out.outer.lt g e).1; omega) (by simp; omega)
              have HWw := Lib.hid (owns_keep (owns_below HWwi.out (show Below wi.heap.size wi (wi.alloc (.cells #[.int .i64 id, .slice a4 q cap4] 40)) from (Below.refl _ _).alloc (Nat.le_refl _) _) (Nat.le_refl _)) HG6.out (other_own (HSi.out.alloc _).outer (by decide)))
              go_roundw
              case rel =>
                refine ⟨k + 1, by omega, by go_num, ⟨.slice a5 (k + 1) cap5, rs ++ [⟨id, a4, q, cap4⟩], ?_, ?_⟩, ?_, ?_, ?_⟩
                · rw [msgI_take HXk.out]; exact HP.out.set (by simp) _
                · exact hset_same HO6.out rfl
                · exact hset_other hR6 (by simp)
                · exact owns_keep HWw.out (only_set _ _ _ _) (other_box HO6.out (by decide))
                · exact hB6.setCell (by simp) _
              case measure => simp [intOf]; omega
      · obtain rfl : k = n := by omega
        obtain ⟨a2, cap2, rfl, _⟩ := own_sh HO.out.outer
        obtain ⟨xs, hxs⟩ : ∃ xs, ws.map msgI = xs := ⟨_, rfl⟩
        have hO' : OwnShs wr (w.heap.size + 1 + 1) 40 44 (.slice a2 k cap2) k rs xs := by
          have := HO.out
          rw [List.take_of_length_le (by rw [HN.out]; exact Nat.le_refl _), hxs] at this; exact this
        rw [hxs] at HRR hsz
        have HX := Lib.hid hO'; clear hO' HO
        have hcp := own_lecapR HX.out.outer
        obtain ⟨G, hG⟩ : ∃ G, rawTextL xs = G := ⟨_, rfl⟩
        have hcall : ∀ W, ShsL W a2 xs → TabW W → Calls Tryz.prog 12 #[.agg #[.slice a2 k cap2]] W fun r w' => r = .returned (.string ⟨G.toArray⟩) ∧ Below W.heap.size W w' := fun W hW hT => by
          have := implRawText_any a2 cap2 k xs W hW HX.out.lenx (by omega) hcp hsz hT
          rw [sB, hG] at this; exact this
        go_wp2_with fail
        refine (hcall _ HX.out.shsL (HW.out.keep hb).num.tab).mono ?_
        rintro r w2 ⟨rfl, hb2⟩
        have hR2 := (hb2.block w.heap.size (by omega)).trans HRx.out
        have hO2 := (hb2.block (w.heap.size + 1) hOl).trans HOx.out
        have hT2 : Below w.heap.size w w2 := hb.trans (hb2.mono hz)
        have hs2 := OwnShs.below HX.out hb2 (Nat.le_refl _)
        have kO2 := box_cells hO2 0; have fO2 := box_frozen hO2 0; have kR2 := box_cells hR2 0; have fR2 := box_frozen hR2 0; have lR := box_lt hR2
        simp only [List.getElem?_toArray, List.getElem?_cons_zero] at kO2 kR2
        have HS2 := Lib.hid hs2; clear hs2 hcall kO fO kR fR hR2 hO2
        by_cases heq : G = bL s
        · have hRR2 : (RX, RB) = (xs, true) := by rw [HRR.out, if_pos (by rw [hG, heq])]
          simp only [Prod.mk.injEq] at hRR2
          obtain ⟨rfl, rfl⟩ := hRR2
          have e1 : ((⟨G.toArray⟩ : ByteArray).toList == s.toList) = true := by rw [heq, ← str_of_bL]; simp
          have e2 : (G == s.toList) = true := by rw [ByteArray.toList_eq, heq]; simp [bL]
          clear heq hG
          go_wp2_with fail
          rw [HX.out.lenx]
          refine bodyPost_ret (v := .tuple #[.agg #[.slice a2 k cap2], .bool true]) (by simp [results, Tryz.results6, go_sem, kR2, lR]) rfl ⟨a2, cap2, rs, rfl, OwnShs.le (HS2.out.set (p := ⟨w.heap.size, 0, none⟩) (by simp only; omega) _) (by omega), hT2.setCell (Nat.le_refl _) _⟩
        · have hRR2 : (RX, RB) = ([], false) := by rw [HRR.out, if_neg (by rw [hG]; exact heq)]
          simp only [Prod.mk.injEq] at hRR2
          obtain ⟨rfl, rfl⟩ := hRR2
          have e1 : ((⟨G.toArray⟩ : ByteArray).toList == s.toList) = false := by rw [beq_bytes, decide_eq_false]; intro e; apply heq; have := congrArg bL e; simpa [bL] using this
          have e2 : (G == s.toList) = false := by rw [ByteArray.toList_eq, beq_eq_false_iff_ne]; exact heq
          clear heq hG
          go_wp2_with fail
          refine bodyPost_ret (v := .tuple #[.agg #[.slice none 0 0], .bool false]) (by simp [results, Tryz.results6, go_sem, kR2, lR]) rfl ⟨none, 0, [], rfl, OwnShs.nil _ _ _ _, hT2.setCell (Nat.le_refl _) _⟩
end Go.Proofs.YtbjbgneiglopmaaGreatDoor
namespace Go.Proofs.YtbjbgneiglopmaaGreatDoor
open Go
theorem wrap_laid {H : Type} {enc : TypeId × Value → H} {C : Checked} {os : Os} {f : FuncId} {fn : Func} {s : ChangeSpec} {conds : List PathCond} {X : World → Prop}
    (hX : ∀ w w' : World, w.heap = w'.heap → X w → X w') (own : ownKnob C.prog.godebug = none) (started : os.Started) (noInit : C.prog.inits.idxOf? f = none) (hfn : C.prog.funcs[f]? = some fn)
    (wit : ∃ (w : World) (tape : Tape) (i : Input), w.os = os ∧ (w.forCall tape i).Shaped C.prog ∧ i.vars = [] ∧ Input.okWide C.prog (w.forCall tape i) .any w.heap.size f i ∧
      ((s.pre enc C.prog fn conds false (w.forCall tape i).memory i.args ∧ X (w.forCall tape i).memory) ∧ sizedMet enc C.prog fn (OpenSpec.ofChange s) false (w.forCall tape i).memory i.args) ∧ ({} : Assume).holds C.prog (lone (Frame.enter C.prog f i.args .normal) [] (w.forCall tape i)))
    (contract : ∀ (W : World) (base : Nat) (args : Array Value) (ds gs : List (DataW H)) (before : List MemPlace),
      (∀ (j : Nat) t v, fn.params[j]? = some t → args[j]? = some v → Value.okWide C.prog W .any base t v) → DataW.Whole enc C.prog fn.params.toList s.vars false W args.toList ds gs before →
      conds.all (PathCond.test C.prog ⟨fn.params.toList, ds, s.plain.varTypes C.prog, gs⟩) = true → (DataW.weightsEach C.prog (fn.params.toList ++ s.plain.varTypes C.prog) (ds ++ gs)).all (· ≤ reachBytes) = true → X W → W.ShapedOpen C.prog →
      Calls C.prog f args W fun e W' => ∃ v, e = .returned v ∧ s.post enc C.prog fn false true false false W args v W') :
    ReturnsInHanded {} C os f .any (fun w args => (s.pre enc C.prog fn conds false w args ∧ X w) ∧ sizedMet enc C.prog fn (OpenSpec.ofChange s) false w args) (s.post enc C.prog fn false true false false) := by
  refine returnsInHanded_of_calls own started noInit wit ?_
  intro w tape i _ hsh _ hok hpre _
  obtain ⟨_, _, _, fn', hfn', _, _, _, _, hval⟩ := hok
  obtain rfl : fn' = fn := Option.some.inj (hfn'.symm.trans hfn)
  obtain ⟨⟨⟨ds, gs, before, hw, hc⟩, hx⟩, hz⟩ := hpre
  refine (contract _ w.heap.size i.args ds gs before hval (DataW.Whole.of_heap (w' := w.forCall tape i) (by rfl) hw) hc (hz.weights hw) (hX _ _ (by rfl) hx) hsh).mono fun e W' ⟨v, he, hp⟩ => ?_
  subst he
  exact ChangeSpec.post_blind hp
end Go.Proofs.YtbjbgneiglopmaaGreatDoor

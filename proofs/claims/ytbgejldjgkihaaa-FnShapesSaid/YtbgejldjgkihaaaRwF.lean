/- The first thing that is wrong with a description: the reference. -/
import Derived.Test.YtbgejldjgkihaaaRwC
namespace Go.Proofs.Ytbgejldjgkihaaa
set_option linter.unusedSimpArgs false
set_option linter.unusedVariables false
open Go.ChangeShapes Go.WideShapes Go.ChangeAt Go.RowKit Go.BigFrame

theorem vio_res {F : Func} (hF : F.results = #[.cell 2 32]) {tm : Array Value} {B : Nat} {W : World} {x y z : Int} (t1 : tm.getD 2 undef = .pointer (some ⟨B, 0, none⟩)) (h : W.heap[B]? = some (.cells #[.int .i64 x, .int .i64 y, .int .i64 z] 32 (0, 0))) :
    (results F tm).run Try.prog W = .ok (.agg #[.int .i64 x, .int .i64 y, .int .i64 z]) W :=
  results_cell hF t1 (run_loadVar_mid W B 0 32 [.int .i64 x, .int .i64 y, .int .i64 z] _ (range_of_box h) Try.underlying32 rfl (by kernel_rfl))
set_option maxRecDepth 100000 in
set_option maxHeartbeats 4000000 in
theorem specFirst_any (a : Option Addr) (cap n : Nat) (xs : List Shp) (w : World) (h : ShsL w a xs) (hl : xs.length = n) (hn : n ≤ 1048576) (hm : fldSum xs ≤ 1048576) :
    Calls Try.prog 11 #[.agg #[.slice a n cap]] w fun r w' => r = .returned (vioV (firstV xs)) ∧ Below w.heap.size w w' := by
  have HL := Lib.hid hl; clear hl
  have HH := Lib.hid h; clear h
  obtain ⟨R, hR⟩ : ∃ R, firstV xs = R := ⟨_, rfl⟩
  rw [hR]
  go_enter Try.func11, Try.ntmps11
  by_cases h6 : 6 < n
  · have hR1 : R = (1, 6, -1) := by rw [← hR, firstV, if_pos (by rw [HL.out]; exact h6)]
    subst hR1
    have h6' : (6 : Int) < (n : Int) := by omega
    go_wp2
    refine bodyPost_ret (vio_res (B := w.heap.size + 1) (x := 1) (y := 6) (z := -1) Try.results11 rfl ?_) rfl ⟨rfl, by ((repeat (first | (with_reducible exact Below.refl _ _) | (with_reducible assumption) | (with_reducible refine Below.alloc ?_ ?_ _) | (with_reducible refine Below.setCell ?_ ?_ _) | (with_reducible refine Below.drew ?_) | (with_reducible refine below_setRow ?_ ?_ _) | (refine Below.trans ?_ (Below.mono (by assumption) ?_)))); all_goals (first | omega | (simp; done) | (simp; omega)))⟩
    exact hset_new (by simp)
  · have HR := Lib.hid (show firstM xs 0 (xs.drop 0) = R by rw [← hR, firstV, if_neg (by rw [HL.out]; exact h6)]; rfl)
    have h6' : decide ((6 : Int) < (n : Int)) = false := decide_eq_false (by omega)
    clear hR
    go_wp2
    go_loopw [3] (fun i wr => ∃ k : Nat, k ≤ n ∧ i = .int .i64 k ∧ Hid (firstM xs k (xs.drop k) = R) ∧ wr.heap[w.heap.size]? = some (.cells #[.slice a n cap] 26 (0, 0)) ∧ wr.heap[w.heap.size + 1]? = some (.cells #[.int .i64 0, .int .i64 0, .int .i64 0] 32 (0, 0)) ∧ Below w.heap.size w wr) (fun i _ => n - (intOf i).toNat)
    case atStart => exact ⟨0, Nat.zero_le _, rfl, HR, hset_alloc (hset_new rfl), hset_new (by simp), by ((repeat (first | (with_reducible exact Below.refl _ _) | (with_reducible assumption) | (with_reducible refine Below.alloc ?_ ?_ _) | (with_reducible refine Below.setCell ?_ ?_ _) | (with_reducible refine Below.drew ?_) | (with_reducible refine below_setRow ?_ ?_ _) | (refine Below.trans ?_ (Below.mono (by assumption) ?_)))); all_goals (first | omega | (simp; done) | (simp; omega)))⟩
    case round =>
      obtain ⟨k, hk, rfl, HK, hA, hV, hb⟩ := hrel
      have kA := box_cells hA 0; have kV := box_cells hV; have fV := box_frozen hV; have hlA := box_lt hA; have hlV := box_lt hV
      simp only [List.getElem?_toArray, List.getElem?_cons_zero] at kA
      have HA := Lib.hid hA; have HV := Lib.hid hV; clear hA hV
      by_cases hlt : k < n
      · obtain ⟨x, hx, _⟩ := at_lt (xs := xs) (k := k) (by rw [HL.out]; exact hlt)
        have hfl : x.flds.length ≤ 1048576 := by have := fldSum_ge hx; omega
        have hsl := HH.out.keep hb
        obtain ⟨b, off, a', cap', rfl, hbl, c0, c1, hfs, hcp⟩ := hsl k x hx
        have HX := Lib.hid hx; clear hx
        have HS := Lib.hid hsl; clear hsl hfs
        go_wp2_with fail
        refine (specMsgCode_any (some ⟨b, off, none⟩) cap n k xs x wr HS.out.shs HL.out hn HX.out hlt hfl).mono ?_
        rintro r w1 ⟨rfl, hb1⟩
        have hA1 := (hb1.block _ hlA).trans HA.out
        have hV1 := (hb1.block _ hlV).trans HV.out
        have hbw1 : Below w.heap.size w w1 := hb.trans (hb1.mono hb.size)
        have c1_ := (hb1.cell (p := ⟨b, off + k * 2 + 1, none⟩) hbl).trans c1
        have hbl1 := Nat.lt_of_lt_of_le hbl hb1.size
        have HS1 := Lib.hid (HS.out.keep hb1)
        clear kA kV fV hlA hlV c0 c1 hb hb1 HS HA HV hbl
        have c1 := c1_; clear c1_
        have kA := box_cells hA1 0; have kV := box_cells hV1; have fV := box_frozen hV1; have hlA := box_lt hA1; have hlV := box_lt hV1
        simp only [List.getElem?_toArray, List.getElem?_cons_zero] at kA
        have HA := Lib.hid hA1; have HV := Lib.hid hV1; clear hA1 hV1
        by_cases hz : msgC xs k x = 0
        · obtain ⟨O, hO⟩ : ∃ O, firstF xs k x.flds 0 x.flds = O := ⟨_, rfl⟩
          have HM := fM_ok HK.out HX.out hz
          rw [hO] at HM
          have HMx := Lib.hid HM; clear HM
          have HO := Lib.hid (show firstF xs k x.flds 0 (x.flds.drop 0) = O from hO); clear hO
          have hz' : (msgC xs k x != 0) = false := by simp [hz]
          rw [hz]
          clear hz hz'
          go_wp2
          obtain ⟨wo, hwo⟩ : ∃ wo : World, wo = w1 := ⟨_, rfl⟩
          rw [← hwo] at HA HV hbw1 HS1 c1 hbl1 kA kV fV hlA hlV ⊢
          clear hwo
          go_loopw [5] (fun j wi => ∃ q : Nat, q ≤ x.flds.length ∧ j = .int .i64 q ∧ Hid (firstF xs k x.flds q (x.flds.drop q) = O) ∧ Below wo.heap.size wo wi) (fun j _ => x.flds.length - (intOf j).toNat)
          case atStart => exact ⟨0, Nat.zero_le _, rfl, HO, Below.refl _ _⟩
          case round =>
            obtain ⟨q, hq, rfl, HQ, hbi⟩ := hrel
            obtain ⟨wi, hwi⟩ : ∃ wi : World, wi = wr := ⟨_, rfl⟩
            rw [← hwi] at hbi ⊢
            clear hwi
            have hAi := (hbi.block _ hlA).trans HA.out
            have hVi := (hbi.block _ hlV).trans HV.out
            have hbwi : Below w.heap.size w wi := hbw1.trans (hbi.mono hbw1.size)
            have c1i := (hbi.cell (p := ⟨b, off + k * 2 + 1, none⟩) hbl1).trans c1
            have HSi := Lib.hid (HS1.out.keep hbi)
            clear kA kV fV c1
            have kA := box_cells hAi 0; have kV := box_cells hVi; have fV := box_frozen hVi; have hlAi := box_lt hAi; have hlVi := box_lt hVi
            simp only [List.getElem?_toArray, List.getElem?_cons_zero] at kA
            have HVi := Lib.hid hVi; clear hVi hAi
            by_cases hlq : q < x.flds.length
            · obtain ⟨f, hf, _⟩ := at_lt (xs := x.flds) (k := q) hlq
              have HF := Lib.hid hf; clear hf
              go_wp2_with fail
              refine (specFieldCode_any (some ⟨b, off, none⟩) cap n k q xs x f wi HSi.out HL.out hn HX.out hlt hfl HF.out hlq).mono ?_
              rintro r w3 ⟨rfl, hb3⟩
              have hV3 := (hb3.block _ hlVi).trans HVi.out
              have hbw3 : Below w.heap.size w w3 := hbwi.trans (hb3.mono hbwi.size)
              have kV3 := box_cells hV3; have fV3 := box_frozen hV3; have hlV3 := box_lt hV3
              have HV3 := Lib.hid hV3; clear hV3 kV fV
              by_cases hz : fldC xs x.flds q f = 0
              · rw [hz]
                have HQ2 := Lib.hid (fF_ok HQ.out HF.out hz)
                clear hz
                go_wp2
                go_roundw
                case rel => exact ⟨q + 1, by omega, by go_num, HQ2, hbi.trans (hb3.mono hbi.size)⟩
                case measure => simp [intOf]; omega
              · have hO2 := fF_bad HQ.out HF.out hz
                have hR2 : (fldC xs x.flds q f, (k : Int), (q : Int)) = R := by have := HMx.out; rw [← hO2] at this; exact this
                have HR2 := Lib.hid hR2; clear hR2 hO2
                have gz : (fldC xs x.flds q f == 0) = false := by simp [hz]
                have gzn : (fldC xs x.flds q f != 0) = true := by simp [hz]
                clear hz
                go_wp2
                refine bodyPost_ret (vio_res (B := w.heap.size + 1) (x := fldC xs x.flds q f) (y := k) (z := q) Try.results11 rfl ?_) rfl ⟨?_, by ((repeat (first | (with_reducible exact Below.refl _ _) | (with_reducible assumption) | (with_reducible refine Below.alloc ?_ ?_ _) | (with_reducible refine Below.setCell ?_ ?_ _) | (with_reducible refine Below.drew ?_) | (with_reducible refine below_setRow ?_ ?_ _) | (refine Below.trans ?_ (Below.mono (by assumption) ?_)))); all_goals (first | omega | (simp; done) | (simp; omega)))⟩
                · apply hset_eq (hset_set (hset_set (hset_set HV3.out))); simp only [List.setIfInBounds_toArray, List.set_cons_zero, List.set_cons_succ]
                · rw [← HR2.out]; rfl
            · have hO2 := fF_end HQ.out (by omega)
              have HK2 := Lib.hid (show firstM xs (k + 1) (xs.drop (k + 1)) = R by have := HMx.out; rw [← hO2] at this; exact this)
              clear hO2
              go_wp2
              go_roundw
              case rel => exact ⟨k + 1, by omega, by go_num, HK2, (hbi.block _ hlA).trans HA.out, HVi.out, hbwi⟩
              case measure => simp [intOf]; omega
        · have hR2 := fM_bad HK.out HX.out hz
          have HR2 := Lib.hid hR2; clear hR2
          have gz : (msgC xs k x == 0) = false := by simp [hz]
          have gzn : (msgC xs k x != 0) = true := by simp [hz]
          clear hz
          go_wp2
          refine bodyPost_ret (vio_res (B := w.heap.size + 1) (x := msgC xs k x) (y := k) (z := -1) Try.results11 rfl ?_) rfl ⟨?_, by ((repeat (first | (with_reducible exact Below.refl _ _) | (with_reducible assumption) | (with_reducible refine Below.alloc ?_ ?_ _) | (with_reducible refine Below.setCell ?_ ?_ _) | (with_reducible refine Below.drew ?_) | (with_reducible refine below_setRow ?_ ?_ _) | (refine Below.trans ?_ (Below.mono (by assumption) ?_)))); all_goals (first | omega | (simp; done) | (simp; omega)))⟩
          · apply hset_eq (hset_set (hset_set (hset_set HV.out))); simp only [List.setIfInBounds_toArray, List.set_cons_zero, List.set_cons_succ]
          · rw [← HR2.out]; rfl
      · obtain rfl : k = n := by omega
        have hR2 := fM_end HK.out (by rw [HL.out]; omega)
        have HR2 := Lib.hid hR2; clear hR2
        go_wp2
        refine bodyPost_ret (vio_res (B := w.heap.size + 1) (x := 0) (y := 0) (z := 0) Try.results11 rfl ?_) rfl ⟨?_, by ((repeat (first | (with_reducible exact Below.refl _ _) | (with_reducible assumption) | (with_reducible refine Below.alloc ?_ ?_ _) | (with_reducible refine Below.setCell ?_ ?_ _) | (with_reducible refine Below.drew ?_) | (with_reducible refine below_setRow ?_ ?_ _) | (refine Below.trans ?_ (Below.mono (by assumption) ?_)))); all_goals (first | omega | (simp; done) | (simp; omega)))⟩
        · apply hset_eq (hset_set (hset_set (hset_set HV.out))); simp only [List.setIfInBounds_toArray, List.set_cons_zero, List.set_cons_succ]
        · rw [← HR2.out]; rfl
end Go.Proofs.Ytbgejldjgkihaaa

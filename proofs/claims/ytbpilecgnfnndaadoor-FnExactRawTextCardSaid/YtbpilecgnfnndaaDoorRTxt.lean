/- FnExactRawText: for every description the program's RawText returns the text that the reference's returns, and the description is left as it was. The library's tables read as the program's text lays them (the card ties that). -/
import Derived.Test.YtbpilecgnfnndaaDoorTie
import Derived.Test.YtbpilecgnfnndaaDoorCards
import Derived.LaidMore
import Derived.OpenShut
import Derived.Stop.Joined
import Derived.SevenTiedAt
import Derived.Test.YtbpilecgnfnndaaDoorRTxt1
import Derived.Test.YtbpilecgnfnndaaDoorRTxt2
import Derived.Test.YtbpilecgnfnndaaDoorRTxt3
import Derived.Test.YtbpilecgnfnndaaDoorRTxt4
namespace Go.Proofs.YtbpilecgnfnndaaDoor.fnExactRawText
set_option linter.unusedSimpArgs false
set_option linter.unusedVariables false
open Go.ChangeShapes Go.WideShapes Go.ChangeAt Go.RowKit Go.BigFrame
theorem tTab : (Tryd.prog.globals[3]?).map (·.type) = some 146 := by kernel_rfl
theorem data_tab : (Rows.laid_internal_strconv_uint64pow10 : DataW Unit) = Lib.tabData .u64 Lib.pow10Tab := by kernel_rfl
theorem of_laid {W : World} (h : laidMet Tryd.prog Rows.fnExactRawTextRow.laid W) : TabW W := by
  obtain ⟨ps, ⟨g0, t0, cs0, f0, p0, q0, _, _, _, _, ⟨g1, t1, cs1, f1, p1, q1, _, _, _, _, ⟨g2, t2, cs2, f2, p2, q2, hg2, ht2, hv2, hd2, _, _⟩, _⟩, _⟩, _, _⟩ := h
  obtain rfl := Option.some.inj (gTab.symm.trans hg2)
  obtain rfl := Option.some.inj (tTab.symm.trans ht2)
  show W.var? Tryd.prog "internal/strconv.uint64pow10" = _
  rw [data_tab] at hd2
  rw [hv2, ← Lib.cells_of_tab (t := 146) (e := 86) Tryd.underlying146 Tryd.underlying86 (by kernel_rfl) (by kernel_rfl) hd2]
set_option maxRecDepth 100000 in
set_option maxHeartbeats 4000000 in
theorem walk (w : World) (x : ShArg) (hx : x.ok w) (ht : TabW w) :
    Calls Tryd.prog 4 #[.agg #[x.sl]] w fun r w' => r = .returned (.bool true) ∧ Below w.heap.size w w' := by
  obtain ⟨a, cap, xs⟩ := x
  obtain ⟨hsl, hok, hle, hcap⟩ := hx
  simp only at hsl hok hle hcap
  have hmx : xs.length ≤ maxLen := Nat.le_trans hle hcap
  by_cases hs : (1048576 : Int) < (xs.length : Int) + fldSum xs
  · have hs' : szS 1048576 xs = -1 := by simp only [szS]; rw [if_pos hs]
    go_enter Tryd.func4, Tryd.ntmps4
    go_wp2_with fail
    refine (szRaw_any _ _ _ xs _ _ (by (first | assumption | exact Shs.keep (by assumption) (by ((repeat (first | (with_reducible exact Below.refl _ _) | (with_reducible assumption) | (with_reducible refine Below.alloc ?_ ?_ _) | (with_reducible refine Below.setCell ?_ ?_ _) | (with_reducible refine Below.drew ?_) | (with_reducible refine below_setRow ?_ ?_ _) | (refine Below.trans ?_ (Below.mono (by assumption) ?_)))); all_goals (first | omega | (simp; done) | (simp; omega)))) | exact Sl.keep (by assumption) (by ((repeat (first | (with_reducible exact Below.refl _ _) | (with_reducible assumption) | (with_reducible refine Below.alloc ?_ ?_ _) | (with_reducible refine Below.setCell ?_ ?_ _) | (with_reducible refine Below.drew ?_) | (with_reducible refine below_setRow ?_ ?_ _) | (refine Below.trans ?_ (Below.mono (by assumption) ?_)))); all_goals (first | omega | (simp; done) | (simp; omega)))))) hok rfl hmx (by omega) (by omega)).mono ?_
    rintro r w1 ⟨rfl, hb1⟩
    have hz1 := hb1.size
    try simp only [World.size_alloc, World.size_setCell, World.size_drew] at hz1
    have hb1b : Below w.heap.size w w1 := by ((repeat (first | (with_reducible exact Below.refl _ _) | (with_reducible assumption) | (with_reducible refine Below.alloc ?_ ?_ _) | (with_reducible refine Below.setCell ?_ ?_ _) | (with_reducible refine Below.drew ?_) | (with_reducible refine below_setRow ?_ ?_ _) | (refine Below.trans ?_ (Below.mono (by assumption) ?_)))); all_goals (first | omega | (simp; done) | (simp; omega)))
    have kA := box_new0 hb1
    have hBA := box_lt0 hb1
    try simp only [World.size_alloc, World.size_setCell, World.size_drew] at kA
    try simp only [World.size_alloc, World.size_setCell, World.size_drew] at hBA
    clear hb1; have hb1 := hb1b; clear hb1b
    go_wp2
    go_ret
    exact ⟨rfl, by ((repeat (first | (with_reducible exact Below.refl _ _) | (with_reducible assumption) | (with_reducible refine Below.alloc ?_ ?_ _) | (with_reducible refine Below.setCell ?_ ?_ _) | (with_reducible refine Below.drew ?_) | (with_reducible refine below_setRow ?_ ?_ _) | (refine Below.trans ?_ (Below.mono (by assumption) ?_)))); all_goals (first | omega | (simp; done) | (simp; omega)))⟩
  · have hn : xs.length ≤ 1048576 := by omega
    have hm : fldSum xs ≤ 1048576 := by omega
    have hs' : 0 ≤ szS 1048576 xs := by simp only [szS]; rw [if_neg hs]; omega
    obtain ⟨S, hS⟩ : ∃ S, sB (rawTextL xs) = S := ⟨_, rfl⟩
    have hc1 : ∀ (W : World) (a : Option Addr) (cap : Nat), ShsL W a xs → Calls Tryd.prog 11 #[.agg #[.slice a xs.length cap]] W fun r w' => r = .returned (.string S) ∧ Below W.heap.size W w' := fun W a cap h => by
      have := specRawText_any a cap xs.length xs W h rfl hn hm
      rw [hS] at this; exact this
    have hc2 : ∀ (W : World) (a : Option Addr) (cap : Nat), TabW W → xs.length ≤ cap → ShsL W a xs → Calls Tryd.prog 13 #[.agg #[.slice a xs.length cap]] W fun r w' => r = .returned (.string S) ∧ Below W.heap.size W w' := fun W a cap hW hc h => by
      have := implRawText_any a cap xs.length xs W h rfl hn hc hm hW
      rw [hS] at this; exact this
    have HT := Lib.hid ht; clear ht hS
    go_enter Tryd.func4, Tryd.ntmps4
    go_wp2_with fail
    refine (szRaw_any a cap _ xs 1048576 _ (hsl.keep (by ((repeat (first | (with_reducible exact Below.refl _ _) | (with_reducible assumption) | (with_reducible refine Below.alloc ?_ ?_ _) | (with_reducible refine Below.setCell ?_ ?_ _) | (with_reducible refine Below.drew ?_) | (with_reducible refine below_setRow ?_ ?_ _) | (refine Below.trans ?_ (Below.mono (by assumption) ?_)))); all_goals (first | omega | (simp; done) | (simp; omega))))) hok rfl hmx (by omega) (by omega)).mono ?_
    rintro r w1 ⟨rfl, hb1⟩
    have hz1 := hb1.size
    try simp only [World.size_alloc, World.size_setCell, World.size_drew] at hz1
    have hb1b : Below w.heap.size w w1 := by ((repeat (first | (with_reducible exact Below.refl _ _) | (with_reducible assumption) | (with_reducible refine Below.alloc ?_ ?_ _) | (with_reducible refine Below.setCell ?_ ?_ _) | (with_reducible refine Below.drew ?_) | (with_reducible refine below_setRow ?_ ?_ _) | (refine Below.trans ?_ (Below.mono (by assumption) ?_)))); all_goals (first | omega | (simp; done) | (simp; omega)))
    have kA := box_new0 hb1
    have hBA := box_lt0 hb1
    try simp only [World.size_alloc, World.size_setCell, World.size_drew] at kA
    try simp only [World.size_alloc, World.size_setCell, World.size_drew] at hBA
    clear hb1; have hb1 := hb1b; clear hb1b
    have hT1 : Below w.heap.size w w1 := hb1
    go_wp2_with fail
    refine (toRaw_any a cap _ xs _ (hsl.keep (show Below w.heap.size w _ from by ((repeat (first | (with_reducible exact Below.refl _ _) | (with_reducible assumption) | (with_reducible refine Below.alloc ?_ ?_ _) | (with_reducible refine Below.setCell ?_ ?_ _) | (with_reducible refine Below.drew ?_) | (with_reducible refine below_setRow ?_ ?_ _) | (refine Below.trans ?_ (Below.mono (by assumption) ?_)))); all_goals (first | omega | (simp; done) | (simp; omega))))) rfl hn hm).mono ?_
    rintro r w2 ⟨a2, cap2, rs2, rfl, ho2, hb2⟩
    have hz2 := hb2.size
    try simp only [World.size_alloc, World.size_setCell, World.size_drew] at hz2
    have hb2b : Below w1.heap.size w1 w2 := by ((repeat (first | (with_reducible exact Below.refl _ _) | (with_reducible assumption) | (with_reducible refine Below.alloc ?_ ?_ _) | (with_reducible refine Below.setCell ?_ ?_ _) | (with_reducible refine Below.drew ?_) | (with_reducible refine below_setRow ?_ ?_ _) | (refine Below.trans ?_ (Below.mono (by assumption) ?_)))); all_goals (first | omega | (simp; done) | (simp; omega)))
    have kA_ := box_next hb2b hBA kA; clear kA
    have kA := kA_; clear kA_
    have hBA_ := Nat.lt_of_lt_of_le hBA hb2b.size; clear hBA; have hBA := hBA_; clear hBA_
    clear hb2; have hb2 := hb2b; clear hb2b
    have hT2 : Below w.heap.size w w2 := hT1.trans (hb2.mono hT1.size)
    have L2 := Lib.hid ho2.shsL; clear ho2
    go_wp2_with fail
    refine (hc1 _ a2 cap2 (ShsL.keep L2.out (show Below w2.heap.size w2 _ from by ((repeat (first | (with_reducible exact Below.refl _ _) | (with_reducible assumption) | (with_reducible refine Below.alloc ?_ ?_ _) | (with_reducible refine Below.setCell ?_ ?_ _) | (with_reducible refine Below.drew ?_) | (with_reducible refine below_setRow ?_ ?_ _) | (refine Below.trans ?_ (Below.mono (by assumption) ?_)))); all_goals (first | omega | (simp; done) | (simp; omega)))))).mono ?_
    rintro r w3 ⟨rfl, hb3⟩
    have hz3 := hb3.size
    try simp only [World.size_alloc, World.size_setCell, World.size_drew] at hz3
    have hb3b : Below w2.heap.size w2 w3 := by ((repeat (first | (with_reducible exact Below.refl _ _) | (with_reducible assumption) | (with_reducible refine Below.alloc ?_ ?_ _) | (with_reducible refine Below.setCell ?_ ?_ _) | (with_reducible refine Below.drew ?_) | (with_reducible refine below_setRow ?_ ?_ _) | (refine Below.trans ?_ (Below.mono (by assumption) ?_)))); all_goals (first | omega | (simp; done) | (simp; omega)))
    have kA_ := box_next hb3b hBA kA; clear kA
    have kA := kA_; clear kA_
    have hBA_ := Nat.lt_of_lt_of_le hBA hb3b.size; clear hBA; have hBA := hBA_; clear hBA_
    clear hb3; have hb3 := hb3b; clear hb3b
    have hT3 : Below w.heap.size w w3 := hT2.trans (hb3.mono hT2.size)
    clear L2
    go_wp2_with fail
    refine (toRaw_any a cap _ xs _ (hsl.keep (show Below w.heap.size w _ from by ((repeat (first | (with_reducible exact Below.refl _ _) | (with_reducible assumption) | (with_reducible refine Below.alloc ?_ ?_ _) | (with_reducible refine Below.setCell ?_ ?_ _) | (with_reducible refine Below.drew ?_) | (with_reducible refine below_setRow ?_ ?_ _) | (refine Below.trans ?_ (Below.mono (by assumption) ?_)))); all_goals (first | omega | (simp; done) | (simp; omega))))) rfl hn hm).mono ?_
    rintro r w4 ⟨a4, cap4, rs4, rfl, ho4, hb4⟩
    have hz4 := hb4.size
    try simp only [World.size_alloc, World.size_setCell, World.size_drew] at hz4
    have hb4b : Below w3.heap.size w3 w4 := by ((repeat (first | (with_reducible exact Below.refl _ _) | (with_reducible assumption) | (with_reducible refine Below.alloc ?_ ?_ _) | (with_reducible refine Below.setCell ?_ ?_ _) | (with_reducible refine Below.drew ?_) | (with_reducible refine below_setRow ?_ ?_ _) | (refine Below.trans ?_ (Below.mono (by assumption) ?_)))); all_goals (first | omega | (simp; done) | (simp; omega)))
    have kA_ := box_next hb4b hBA kA; clear kA
    have kA := kA_; clear kA_
    have hBA_ := Nat.lt_of_lt_of_le hBA hb4b.size; clear hBA; have hBA := hBA_; clear hBA_
    clear hb4; have hb4 := hb4b; clear hb4b
    have hT4 : Below w.heap.size w w4 := hT3.trans (hb4.mono hT3.size)
    have L4 := Lib.hid ho4.shsL; have hcp4 := own_lecapR ho4.outer; clear ho4
    go_wp2_with fail
    refine (hc2 _ a4 cap4 (HT.out.keep (show Below w.heap.size w _ from by ((repeat (first | (with_reducible exact Below.refl _ _) | (with_reducible assumption) | (with_reducible refine Below.alloc ?_ ?_ _) | (with_reducible refine Below.setCell ?_ ?_ _) | (with_reducible refine Below.drew ?_) | (with_reducible refine below_setRow ?_ ?_ _) | (refine Below.trans ?_ (Below.mono (by assumption) ?_)))); all_goals (first | omega | (simp; done) | (simp; omega))))) hcp4 (ShsL.keep L4.out (show Below w4.heap.size w4 _ from by ((repeat (first | (with_reducible exact Below.refl _ _) | (with_reducible assumption) | (with_reducible refine Below.alloc ?_ ?_ _) | (with_reducible refine Below.setCell ?_ ?_ _) | (with_reducible refine Below.drew ?_) | (with_reducible refine below_setRow ?_ ?_ _) | (refine Below.trans ?_ (Below.mono (by assumption) ?_)))); all_goals (first | omega | (simp; done) | (simp; omega)))))).mono ?_
    rintro r w5 ⟨rfl, hb5⟩
    have hz5 := hb5.size
    try simp only [World.size_alloc, World.size_setCell, World.size_drew] at hz5
    have hb5b : Below w4.heap.size w4 w5 := by ((repeat (first | (with_reducible exact Below.refl _ _) | (with_reducible assumption) | (with_reducible refine Below.alloc ?_ ?_ _) | (with_reducible refine Below.setCell ?_ ?_ _) | (with_reducible refine Below.drew ?_) | (with_reducible refine below_setRow ?_ ?_ _) | (refine Below.trans ?_ (Below.mono (by assumption) ?_)))); all_goals (first | omega | (simp; done) | (simp; omega)))
    have kA_ := box_next hb5b hBA kA; clear kA
    have kA := kA_; clear kA_
    have hBA_ := Nat.lt_of_lt_of_le hBA hb5b.size; clear hBA; have hBA := hBA_; clear hBA_
    have kX := box_new0 hb5
    have hBX := box_lt0 hb5
    try simp only [World.size_alloc, World.size_setCell, World.size_drew] at kX
    try simp only [World.size_alloc, World.size_setCell, World.size_drew] at hBX
    clear hb5; have hb5 := hb5b; clear hb5b
    have hT5 : Below w.heap.size w w5 := hT4.trans (hb5.mono hT4.size)
    have L5 := Lib.hid (ShsL.keep L4.out hb5); clear L4
    go_wp2_with fail
    go_region_held3 (fun w' => (∀ i, w'.cell? ⟨w4.heap.size, i, none⟩ = (#[.slice a4 xs.length cap4] : Array Value)[i]?) ∧ (∀ i, w'.cell? ⟨w.heap.size, i, none⟩ = (#[.slice a xs.length cap] : Array Value)[i]?) ∧ Below w5.heap.size w5 w') (first | assumption | exact ⟨kX, kA, (Below.refl _ _).drew⟩) (first | (go_at_call 12; have hS7a := held_last2 (by assumption); have hs7a_ := hS7a.size; refine (toRaw_any a cap _ xs _ (hsl.keep (show Below w.heap.size w _ from hT5.trans (Below.mono (by assumption) hT5.size))) rfl hn hm).mono ?_; rintro r w7a ⟨a7a, cap7a, rs7a, rfl, ho7a, hb7a⟩; have hz7a := hb7a.size; have hT7a := held_next2 (by assumption) hb7a (by omega) (by omega); have hs7a := ho7a.shs; clear ho7a) | (go_at_call 14; have hS7b := held_last2 (by assumption); have hs7b_ := hS7b.size; refine (eqRaw_same _ _ _ _ _ xs _ ((ShsL.keep L5.out (by assumption)).shs) (by (first | assumption | exact Shs.keep (by assumption) (by ((repeat (first | (with_reducible exact Below.refl _ _) | (with_reducible assumption) | (with_reducible refine Below.alloc ?_ ?_ _) | (with_reducible refine Below.setCell ?_ ?_ _) | (with_reducible refine Below.drew ?_) | (with_reducible refine below_setRow ?_ ?_ _) | (refine Below.trans ?_ (Below.mono (by assumption) ?_)))); all_goals (first | omega | (simp; done) | (simp; omega)))) | exact Sl.keep (by assumption) (by ((repeat (first | (with_reducible exact Below.refl _ _) | (with_reducible assumption) | (with_reducible refine Below.alloc ?_ ?_ _) | (with_reducible refine Below.setCell ?_ ?_ _) | (with_reducible refine Below.drew ?_) | (with_reducible refine below_setRow ?_ ?_ _) | (refine Below.trans ?_ (Below.mono (by assumption) ?_)))); all_goals (first | omega | (simp; done) | (simp; omega)))))) rfl hn hm).mono ?_; rintro r w7b ⟨rfl, hb7b⟩; have hz7b := hb7b.size; have hT7b := held_next2 (by assumption) hb7b (by omega) (by omega); skip))
    obtain ⟨kX_, kA_, hbT7⟩ := hT7b
    clear kX; have kX := kX_; clear kX_
    have hBX_ := Nat.lt_of_lt_of_le hBX hbT7.size; clear hBX; have hBX := hBX_; clear hBX_
    clear kA; have kA := kA_; clear kA_
    have hBA_ := Nat.lt_of_lt_of_le hBA hbT7.size; clear hBA; have hBA := hBA_; clear hBA_
    go_wp2
    go_ret
    exact ⟨rfl, hT5.trans (hbT7.mono hT5.size)⟩
theorem door_met (os : Os) (args : Array Value) : laidMetH Tryd.prog Rows.fnExactRawTextRow.laid ((World.doorLaid Tryd.prog 72 os).forCall (fun _ _ => 0) ⟨#[], args, []⟩).memory :=
  laidMetH_of_parts3 (fuel := 8) (laidMet_of_run' 8 (by kernel_rfl) (by kernel_rfl)) (by kernel_rfl) (by kernel_rfl)
set_option maxRecDepth 100000 in
theorem lifted (os : Os) (started : os.Started) (H : Type) (enc : TypeId × Value → H) :
    ReturnsInHanded {} Tryd.checked os 4 .any (fun w args => (Rows.fnExactRawTextSpec.pre enc Tryd.prog Tryd.f4 [] false w args ∧ laidMetH Tryd.prog Rows.fnExactRawTextRow.laid w) ∧ sizedMet enc Tryd.prog Tryd.f4 (OpenSpec.ofChange Rows.fnExactRawTextSpec) false w args)
      (Rows.fnExactRawTextSpec.post enc Tryd.prog Tryd.f4 false true false false) := by
  refine returnsInHanded_of_change_and (C := Tryd.checked) (X := fun w _ => laidMetH Tryd.prog Rows.fnExactRawTextRow.laid w) (fun _ _ _ hh h => h.of_heap hh) own started (by kernel_rfl) Tryd.func4
    (ChangeSpec.witness_shaped (enc := enc) (C := Tryd.checked) (os := os) (X := fun w _ => laidMetH Tryd.prog Rows.fnExactRawTextRow.laid w) false (World.doorLaid Tryd.prog 72 os) #[.agg #[.slice none 0 0]] 8 rfl (World.shaped_of_RefB (by kernel_rfl) (by kernel_rfl)) (by kernel_rfl) (by kernel_rfl) (by kernel_rfl) (door_met os _)) ?_
  intro W base args ds gs before hval0 hW _ _ hL _
  have hval : ∀ (j : Nat) t v, Tryd.f4.params[j]? = some t → args[j]? = some v → Value.okWide Tryd.prog W .any base t v := hval0
  have hW' := hW
  obtain ⟨p, q, hA0, hV, rfl, hfz, hnd⟩ := hW
  have hA : DataW.TrodAll enc Tryd.prog W 0 (fun _ => true) true Tryd.f4.params.toList args.toList ds p := hA0
  rw [Tryd.params4] at hA hval
  obtain ⟨v0, vs0, d0, ds0, p0, q0, hargs, rfl, rfl, h0, r0⟩ := trodAll_cons hA
  obtain ⟨rfl, rfl, rfl⟩ := trodAll_nil r0
  obtain rfl : args = #[v0] := by cases args; simp_all
  obtain ⟨rfl, rfl⟩ := trodVars_none hV
  have k0 := h0
  have lt0 : ∀ x ∈ p0, x.block < W.heap.size := by obtain ⟨m, hm⟩ := k0; exact DataW.trod_lt m _ _ _ hm
  obtain ⟨x0, e0, w0⟩ := openRaw (hval 0 30 v0 rfl rfl) h0
  subst e0
  clear hA0 hval0
  rw [MakeChecks.laidMetH_plain _ _ _ (by kernel_rfl)] at hL
  refine (walk W x0 w0 (of_laid hL)).mono fun e W' ⟨he, bel⟩ => ?_
  subst he
  exact ⟨_, rfl, _, _, _, [], _, [], hW', trodAll_mk1 (shut_bool Tryd.underlying4 _), (trodAll_cons_mk (Below.trod laidOut (by kernel_rfl) (of_decide_eq_true (by kernel_rfl)) k0 bel lt0) trodAll_mk0), rfl, bel.frame _, fun h => by cases h⟩
theorem over : Rows.FnExactRawTextSaid :=
  OpenClaim.holds_of_wide 4 Tryd.f4 rfl rfl rfl rfl rfl rfl rfl ⟨rfl, rfl, rfl, rfl, rfl⟩ rfl rfl rfl rfl rfl (by kernel_rfl) Tryd.func4 (by kernel_rfl)
    (of_decide_eq_true (by kernel_rfl)) (by unfold Func.isWrapper; first | (rw [if_pos (by decide +kernel)]; kernel_rfl) | (rw [if_neg (by decide +kernel)]; exact ⟨rfl, rfl⟩))
    (fun os started H enc _ => lifted os started H enc)
theorem proved : Rows.FnExactRawTextCardSaid :=
  Claim7.holds_tied_plain_at .later [] [.data, .data, .data] true (true, "fcd8ac1ca421c06e49d0f3401219ce30f0e6f3f6342ec0fef69aa1e18ce367f7") true
    over (fun _ h => by cases h) (by kernel_rfl) (fun _ h => by cases h) fnExactRawText_row_tie rfl ⟨rfl, rfl⟩ (by kernel_rfl) rfl
    (fun f fn hf hfn => by
      obtain rfl : f = 4 := Option.some.inj ((show Tryd.prog.funcNamed "loop.example/g00498/laws.FnExactRawText" = some 4 by kernel_rfl).symm.trans hf) |>.symm
      obtain rfl : fn = Tryd.f4 := (Option.some.inj (Tryd.func4.symm.trans hfn)).symm
      exact ⟨by kernel_rfl, fun j t ht => by
        rw [Tryd.params4] at ht
        have hm : t ∈ [30] := by simpa using Array.mem_of_getElem? ht
        have hall : ([30].all fun u => !Tryd.prog.wantsStandIn u) = true := by kernel_rfl
        exact (show Tryd.prog.wantsStandIn t = false by simpa using List.all_eq_true.1 hall t hm)⟩)
    (by kernel_rfl)
end Go.Proofs.YtbpilecgnfnndaaDoor.fnExactRawText

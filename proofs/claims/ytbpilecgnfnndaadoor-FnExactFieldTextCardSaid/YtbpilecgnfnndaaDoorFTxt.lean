/- FnExactFieldText: for every field the program's FieldText returns the text that the reference's returns. The library's tables read as the program's text lays them (the card ties that). -/
import Derived.Test.YtbpilecgnfnndaaDoorTie
import Derived.Test.YtbpilecgnfnndaaDoorCards
import Derived.LaidMore
import Derived.OpenShut
import Derived.Stop.Joined
import Derived.SevenTiedAt
import Derived.Test.YtbpilecgnfnndaaDoorFTxt1
namespace Go.Proofs.YtbpilecgnfnndaaDoor.fnExactFieldText
set_option linter.unusedSimpArgs false
set_option linter.unusedVariables false
open Go.ChangeShapes Go.WideShapes Go.ChangeAt Go.RowKit Go.BigFrame
section
variable {H : Type} {enc : TypeId × Value → H} {W : World} {base : Nat} {v : Value} {d : DataW H} {ps : List MemPlace} {sp : Nat → Bool}
theorem cells_rfld : Tryd.prog.cellsOf 23 = 5 := by kernel_rfl
theorem flat_rfld : flat Tryd.prog 9 23 = some [CK.int .i64, .int .i64, .bool, .bool, .int .i64] := by kernel_rfl
set_option maxRecDepth 100000 in
theorem openRawFld (hv : Value.okWide Tryd.prog W .any base 23 v) (h : DataW.Trod enc Tryd.prog W 0 sp true 23 v d ps) : ∃ e : Fld, v = e.val ∧ e.ok := by
  obtain ⟨cs, rfl, hsz⟩ := agg_of_okWide Tryd.underlying23 hv
  obtain ⟨e, he, hok⟩ := fld_of_cells (w := W) (cs := cs.toList) (by rw [Array.length_toList, hsz, cells_rfld]) (fun j ck hj => let ⟨x, hx, hk⟩ := flat_trod flat_rfld cells_rfld h j ck hj; ⟨x, hx, hk 1⟩)
  exact ⟨e, by obtain ⟨l⟩ := cs; simp only at he; rw [he], hok⟩
end
theorem tTab : (Tryd.prog.globals[3]?).map (·.type) = some 146 := by kernel_rfl
theorem data_tab : (Rows.laid_internal_strconv_uint64pow10 : DataW Unit) = Lib.tabData .u64 Lib.pow10Tab := by kernel_rfl
theorem of_laid {W : World} (h : laidMet Tryd.prog Rows.fnExactFieldTextRow.laid W) : TabW W := by
  obtain ⟨ps, ⟨g0, t0, cs0, f0, p0, q0, _, _, _, _, ⟨g1, t1, cs1, f1, p1, q1, _, _, _, _, ⟨g2, t2, cs2, f2, p2, q2, hg2, ht2, hv2, hd2, _, _⟩, _⟩, _⟩, _, _⟩ := h
  obtain rfl := Option.some.inj (gTab.symm.trans hg2)
  obtain rfl := Option.some.inj (tTab.symm.trans ht2)
  show W.var? Tryd.prog "internal/strconv.uint64pow10" = _
  rw [data_tab] at hd2
  rw [hv2, ← Lib.cells_of_tab (t := 146) (e := 86) Tryd.underlying146 Tryd.underlying86 (by kernel_rfl) (by kernel_rfl) hd2]
theorem walk (w : World) (f : Fld) (hx : f.ok) (ht : TabW w) :
    Calls Tryd.prog 3 #[f.val] w fun r w' => r = .returned (.bool true) ∧ Below w.heap.size w w' := by
  obtain ⟨S, hS⟩ : ∃ S, sB (fieldL f) = S := ⟨_, rfl⟩
  have hs1 : ∀ W, Calls Tryd.prog 7 #[f.val] W fun r w' => r = .returned (.string S) ∧ Below W.heap.size W w' := fun W => by
    have := specFieldText_any f W; rw [hS] at this; exact this
  have hs2 : ∀ W, TabW W → Calls Tryd.prog 9 #[f.val] W fun r w' => r = .returned (.string S) ∧ Below W.heap.size W w' := fun W hW => by
    have := implFieldText_any f W hW; rw [hS] at this; exact this
  have HT := Lib.hid ht; clear ht hS
  obtain ⟨n, k, rp, pk, m⟩ := f
  go_enter Tryd.func3, Tryd.ntmps3
  go_wp2_with fail
  refine (toRawField_any ⟨n, k, rp, pk, m⟩ _).mono ?_
  rintro r w1 ⟨rfl, hb1⟩
  have hT1 : Below w.heap.size w w1 := by ((repeat (first | (with_reducible exact Below.refl _ _) | (with_reducible assumption) | (with_reducible refine Below.alloc ?_ ?_ _) | (with_reducible refine Below.setCell ?_ ?_ _) | (with_reducible refine Below.drew ?_) | (with_reducible refine below_setRow ?_ ?_ _) | (refine Below.trans ?_ (Below.mono (by assumption) ?_)))); all_goals (first | omega | (simp; done) | (simp; omega)))
  have k1 := fun i => (hb1.cell (p := ⟨w.heap.size, i, none⟩) (by simp))
  go_wp2_with fail
  refine (hs1 _).mono ?_
  rintro r w2 ⟨rfl, hb2⟩
  have hT2 : Below w.heap.size w w2 := hT1.trans (hb2.mono hT1.size)
  have hz1 := hb1.size
  have k2 := fun i => (hb2.cell (p := ⟨w.heap.size, i, none⟩) (by simp at hz1 ⊢; omega)).trans (k1 i)
  go_wp2_with fail
  refine (toRawField_any ⟨n, k, rp, pk, m⟩ _).mono ?_
  rintro r w3 ⟨rfl, hb3⟩
  have hT3 : Below w.heap.size w w3 := hT2.trans (hb3.mono hT2.size)
  go_wp2_with fail
  refine (hs2 _ (HT.out.keep hT3)).mono ?_
  rintro r w4 ⟨rfl, hb4⟩
  go_wp2
  go_ret
  exact ⟨rfl, hT3.trans (hb4.mono hT3.size)⟩
theorem door_met (os : Os) (args : Array Value) : laidMetH Tryd.prog Rows.fnExactFieldTextRow.laid ((World.doorLaid Tryd.prog 72 os).forCall (fun _ _ => 0) ⟨#[], args, []⟩).memory :=
  laidMetH_of_parts3 (fuel := 8) (laidMet_of_run' 8 (by kernel_rfl) (by kernel_rfl)) (by kernel_rfl) (by kernel_rfl)
set_option maxRecDepth 100000 in
theorem lifted (os : Os) (started : os.Started) (H : Type) (enc : TypeId × Value → H) :
    ReturnsInHanded {} Tryd.checked os 3 .any (fun w args => (Rows.fnExactFieldTextSpec.pre enc Tryd.prog Tryd.f3 [] false w args ∧ laidMetH Tryd.prog Rows.fnExactFieldTextRow.laid w) ∧ sizedMet enc Tryd.prog Tryd.f3 (OpenSpec.ofChange Rows.fnExactFieldTextSpec) false w args)
      (Rows.fnExactFieldTextSpec.post enc Tryd.prog Tryd.f3 false true false false) := by
  refine returnsInHanded_of_change_and (C := Tryd.checked) (X := fun w _ => laidMetH Tryd.prog Rows.fnExactFieldTextRow.laid w) (fun _ _ _ hh h => h.of_heap hh) own started (by kernel_rfl) Tryd.func3
    (ChangeSpec.witness_shaped (enc := enc) (C := Tryd.checked) (os := os) (X := fun w _ => laidMetH Tryd.prog Rows.fnExactFieldTextRow.laid w) false (World.doorLaid Tryd.prog 72 os) #[.agg #[.int .i64 0, .int .i64 0, .bool false, .bool false, .int .i64 0]] 8 rfl (World.shaped_of_RefB (by kernel_rfl) (by kernel_rfl)) (by kernel_rfl) (by kernel_rfl) (by kernel_rfl) (door_met os _)) ?_
  intro W base args ds gs before hval0 hW _ _ hL _
  have hval : ∀ (j : Nat) t v, Tryd.f3.params[j]? = some t → args[j]? = some v → Value.okWide Tryd.prog W .any base t v := hval0
  have hW' := hW
  obtain ⟨p, q, hA0, hV, rfl, hfz, hnd⟩ := hW
  have hA : DataW.TrodAll enc Tryd.prog W 0 (fun _ => true) true Tryd.f3.params.toList args.toList ds p := hA0
  rw [Tryd.params3] at hA hval
  obtain ⟨v0, vs0, d0, ds0, p0, q0, hargs, rfl, rfl, h0, r0⟩ := trodAll_cons hA
  obtain ⟨rfl, rfl, rfl⟩ := trodAll_nil r0
  obtain rfl : args = #[v0] := by cases args; simp_all
  obtain ⟨rfl, rfl⟩ := trodVars_none hV
  have k0 := h0
  have lt0 : ∀ x ∈ p0, x.block < W.heap.size := by obtain ⟨m, hm⟩ := k0; exact DataW.trod_lt m _ _ _ hm
  obtain ⟨x0, e0, w0⟩ := openRawFld (hval 0 23 v0 rfl rfl) h0
  subst e0
  clear hA0 hval0
  rw [MakeChecks.laidMetH_plain _ _ _ (by kernel_rfl)] at hL
  refine (walk W x0 w0 (of_laid hL)).mono fun e W' ⟨he, bel⟩ => ?_
  subst he
  exact ⟨_, rfl, _, _, _, [], _, [], hW', trodAll_mk1 (shut_bool Tryd.underlying4 _), (trodAll_cons_mk (Below.trod laidOut (by kernel_rfl) (of_decide_eq_true (by kernel_rfl)) k0 bel lt0) trodAll_mk0), rfl, bel.frame _, fun h => by cases h⟩
theorem over : Rows.FnExactFieldTextSaid :=
  OpenClaim.holds_of_wide 3 Tryd.f3 rfl rfl rfl rfl rfl rfl rfl ⟨rfl, rfl, rfl, rfl, rfl⟩ rfl rfl rfl rfl rfl (by kernel_rfl) Tryd.func3 (by kernel_rfl)
    (of_decide_eq_true (by kernel_rfl)) (by unfold Func.isWrapper; first | (rw [if_pos (by decide +kernel)]; kernel_rfl) | (rw [if_neg (by decide +kernel)]; exact ⟨rfl, rfl⟩))
    (fun os started H enc _ => lifted os started H enc)
theorem proved : Rows.FnExactFieldTextCardSaid :=
  Claim7.holds_tied_plain_at .later [] [.data, .data, .data] true (true, "fcd8ac1ca421c06e49d0f3401219ce30f0e6f3f6342ec0fef69aa1e18ce367f7") true
    over (fun _ h => by cases h) (by kernel_rfl) (fun _ h => by cases h) fnExactFieldText_row_tie rfl ⟨rfl, rfl⟩ (by kernel_rfl) rfl
    (fun f fn hf hfn => by
      obtain rfl : f = 3 := Option.some.inj ((show Tryd.prog.funcNamed "loop.example/g00498/laws.FnExactFieldText" = some 3 by kernel_rfl).symm.trans hf) |>.symm
      obtain rfl : fn = Tryd.f3 := (Option.some.inj (Tryd.func3.symm.trans hfn)).symm
      exact ⟨by kernel_rfl, fun j t ht => by
        rw [Tryd.params3] at ht
        have hm : t ∈ [23] := by simpa using Array.mem_of_getElem? ht
        have hall : ([23].all fun u => !Tryd.prog.wantsStandIn u) = true := by kernel_rfl
        exact (show Tryd.prog.wantsStandIn t = false by simpa using List.all_eq_true.1 hall t hm)⟩)
    (by kernel_rfl)
end Go.Proofs.YtbpilecgnfnndaaDoor.fnExactFieldText

/- FnExactReadField: for every text the program's ReadField returns what the reference's returns. The library's tables read as the program's text lays them (the card ties that). -/
import Derived.Test.YtbpilecgnfnndaaDoorTie
import Derived.Test.YtbpilecgnfnndaaDoorCards
import Derived.LaidMore
import Derived.Lay
import Derived.OpenShut
import Derived.Stop.Joined
import Derived.Stop.LaidErr
import Derived.Shelf.Vars
import Derived.SevenTiedAt
import Derived.Test.YtbpilecgnfnndaaDoorRdF1
import Derived.Test.YtbpilecgnfnndaaDoorRdF2
namespace Go.Proofs.YtbpilecgnfnndaaDoor.fnExactReadField
set_option linter.unusedSimpArgs false
set_option linter.unusedVariables false
open Go.ChangeShapes Go.WideShapes Go.ChangeAt Go.RowKit Go.BigFrame
theorem tTab : (Tryd.prog.globals[3]?).map (·.type) = some 146 := by kernel_rfl
theorem data_tab : (Rows.laid_internal_strconv_uint64pow10 : DataW Unit) = Lib.tabData .u64 Lib.pow10Tab := by kernel_rfl
theorem tab_of {W : World} {ps : List MemPlace} (h : DataW.LaidVars Tryd.prog W Rows.fnExactReadFieldRow.laid ps) : TabW W := by
  obtain ⟨g0, t0, cs0, f0, p0, q0, _, _, _, _, ⟨g1, t1, cs1, f1, p1, q1, _, _, _, _, ⟨g2, t2, cs2, f2, p2, q2, hg2, ht2, hv2, hd2, _, _⟩, _⟩, _⟩ := h
  obtain rfl := Option.some.inj (gTab.symm.trans hg2)
  obtain rfl := Option.some.inj (tTab.symm.trans ht2)
  show W.var? Tryd.prog "internal/strconv.uint64pow10" = _
  rw [data_tab] at hd2
  rw [hv2, ← Lib.cells_of_tab (t := 146) (e := 86) Tryd.underlying146 Tryd.underlying86 (by kernel_rfl) (by kernel_rfl) hd2]
theorem starE : "*" ++ "errors.errorString" = "*errors.errorString" := by decide
theorem row_err (u : TypeId) (h : Tryd.prog.typeName? 3 u = some "*errors.errorString") : u = 157 :=
  typeName_ptr_named (nm := "errors.errorString") (by rw [starE]; kernel_rfl) (by kernel_rfl) (by decide) u (by rw [starE]; exact h)
theorem of_laid {W : World} (h : laidMet Tryd.prog Rows.fnExactReadFieldRow.laid W) (hsh : W.ShapedOpen Tryd.prog) : TxtW W := by
  have h3 := h.tail.tail.tail.tail
  have hr : ∃ (a : Addr) (s : ByteArray), W.var? Tryd.prog "strconv.ErrRange" = some #[.iface 157 (.pointer (some a))] ∧ W.cell? a = some (.string s) ∧ s.data.toList = _ ∧ s.size ≤ maxLen :=
    laid_sentinel h3 gRng (by kernel_rfl) Tryd.underlying81 row_err Tryd.underlying157 Tryd.underlying159 rfl rfl Tryd.underlying9 (by kernel_rfl) (by kernel_rfl)
  have hs : ∃ (a : Addr) (s : ByteArray), W.var? Tryd.prog "strconv.ErrSyntax" = some #[.iface 157 (.pointer (some a))] ∧ W.cell? a = some (.string s) ∧ s.data.toList = _ ∧ s.size ≤ maxLen :=
    laid_sentinel h3.tail gSyn (by kernel_rfl) Tryd.underlying81 row_err Tryd.underlying157 Tryd.underlying159 rfl rfl Tryd.underlying9 (by kernel_rfl) (by kernel_rfl)
  obtain ⟨ar, _, hr, _⟩ := hr
  obtain ⟨asy, _, hs, _⟩ := hs
  obtain ⟨ps, hL, _⟩ := h
  exact ⟨⟨tab_of hL, ⟨_, _, hs⟩, ⟨_, _, hr⟩⟩, cell_of_shapedOpen_int (zero := #[.int .i64 0]) (t := 3) hsh (of_decide_eq_true (by kernel_rfl)) (by kernel_rfl) rfl (by kernel_rfl) (by kernel_rfl) Tryd.underlying3⟩
theorem walk (w : World) (s : ByteArray) (hx : s.size ≤ maxLen) (ht : TxtW w) :
    Calls Tryd.prog 5 #[.string s] w fun r w' => r = .returned (.bool true) ∧ Below w.heap.size w w' := by
  by_cases hbig : 1048576 < s.size
  · have hb : (1048576 : Int) < s.size := by omega
    go_enter Tryd.func5, Tryd.ntmps5
    go_wp2_with fail
    go_ret
    exact ⟨rfl, Below.refl _ _⟩
  · have hs : s.size ≤ 1048576 := by omega
    have hb : ¬ (1048576 : Int) < s.size := by omega
    obtain ⟨⟨F, B⟩, hR⟩ : ∃ R, readS (bL s) = R := ⟨_, rfl⟩
    have hs1 : ∀ W, Calls Tryd.prog 15 #[.string s] W fun r w' => r = .returned (.tuple #[F.val, .bool B]) ∧ Below W.heap.size W w' := fun W => by
      have := specReadField_any s W hs; rw [hR] at this; exact this
    have hs2 : ∀ W, TxtW W → Calls Tryd.prog 16 #[.string s] W fun r w' => r = .returned (.tuple #[F.val, .bool B]) ∧ Below W.heap.size W w' := fun W hW => by
      have := implReadField_any s W hW hs; rw [read_same, hR] at this; exact this
    have HT := Lib.hid ht; clear ht hR hbig
    obtain ⟨n, k, rp, pk, m⟩ := F
    go_enter Tryd.func5, Tryd.ntmps5
    go_wp2_with fail
    refine (hs1 _).mono ?_
    rintro r w1 ⟨rfl, hb1⟩
    go_wp2_with fail
    refine (hs2 _ (HT.out.keep (hb1.alloc hb1.size _))).mono ?_
    rintro r w2 ⟨rfl, hb2⟩
    have hT1 : Below w.heap.size w (w1.alloc (.cells #[.int .i64 n, .int .i64 k, .bool rp, .bool pk, .int .i64 m] 25)) := hb1.alloc hb1.size _
    have hT2 : Below w.heap.size w w2 := hT1.trans (hb2.mono hT1.size)
    have h1 : w2.heap[w1.heap.size]? = some (.cells #[.int .i64 n, .int .i64 k, .bool rp, .bool pk, .int .i64 m] 25 (0, 0)) := (hb2.block w1.heap.size (by simp)).trans (hset_new rfl)
    have k1 := box_cells h1; have f1 := box_frozen h1; have l1 := box_lt h1
    clear h1 hT1 hb2
    go_wp2_with fail
    refine (eqRawField_any ⟨n, k, rp, pk, m⟩ ⟨n, k, rp, pk, m⟩ _).mono ?_
    rintro r w3 ⟨rfl, hb3⟩
    rw [decide_eq_true rfl]
    have hT3 : Below w.heap.size w w3 := (hT2.alloc hT2.size (.cells #[.int .i64 n, .int .i64 k, .bool rp, .bool pk, .int .i64 m] 25)).trans (hb3.mono (by have := hT2.size; simp; omega))
    go_wp2
    go_ret
    exact ⟨rfl, hT3⟩
set_option maxRecDepth 100000 in
theorem lifted (os : Os) (started : os.Started) (H : Type) (enc : TypeId × Value → H) :
    ReturnsInHanded {} Tryd.checked os 5 .any (fun w args => (Rows.fnExactReadFieldSpec.pre enc Tryd.prog Tryd.f5 [] false w args ∧ laidMetH Tryd.prog Rows.fnExactReadFieldRow.laid w) ∧ sizedMet enc Tryd.prog Tryd.f5 (OpenSpec.ofChange Rows.fnExactReadFieldSpec) false w args)
      (Rows.fnExactReadFieldSpec.post enc Tryd.prog Tryd.f5 false true false false) := by
  refine wrap_laid (C := Tryd.checked) (X := fun w => laidMetH Tryd.prog Rows.fnExactReadFieldRow.laid w) (fun _ _ hh h => h.of_heap hh) own started (by kernel_rfl) Tryd.func5
    (ChangeSpec.witness_shaped (enc := enc) (C := Tryd.checked) (os := os) (X := fun w _ => laidMetH Tryd.prog Rows.fnExactReadFieldRow.laid w) false (World.laidAll Tryd.prog os Rows.fnExactReadFieldRow.laid) #[.string ByteArray.empty] 8 (World.laidAll_os _ _ _) (World.shaped_of_ZipB (by kernel_rfl) (by kernel_rfl)) (by kernel_rfl) (by kernel_rfl) (by kernel_rfl) (by rw [MakeChecks.laidMetH_plain _ _ _ (by kernel_rfl)]; exact laidMet_laidAll _ (by kernel_rfl) (by kernel_rfl))) ?_
  intro W base args ds gs before hval0 hW _ _ hL hsh
  have hval : ∀ (j : Nat) t v, Tryd.f5.params[j]? = some t → args[j]? = some v → Value.okWide Tryd.prog W .any base t v := hval0
  have hW' := hW
  obtain ⟨p, q, hA0, hV, rfl, hfz, hnd⟩ := hW
  have hA : DataW.TrodAll enc Tryd.prog W 0 (fun _ => true) true Tryd.f5.params.toList args.toList ds p := hA0
  rw [Tryd.params5] at hA hval
  obtain ⟨v0, vs0, d0, ds0, p0, q0, hargs, rfl, rfl, h0, r0⟩ := trodAll_cons hA
  obtain ⟨rfl, rfl, rfl⟩ := trodAll_nil r0
  obtain rfl : args = #[v0] := by cases args; simp_all
  obtain ⟨rfl, rfl⟩ := trodVars_none hV
  have k0 := h0
  have lt0 : ∀ x ∈ p0, x.block < W.heap.size := by obtain ⟨m, hm⟩ := k0; exact DataW.trod_lt m _ _ _ hm
  obtain ⟨x0, e0, w0⟩ := openStr Tryd.underlying9 (hval 0 9 v0 rfl rfl) h0
  subst e0
  clear hA0 hval0
  rw [MakeChecks.laidMetH_plain _ _ _ (by kernel_rfl)] at hL
  refine (walk W x0 w0 (of_laid hL hsh)).mono fun e W' ⟨he, bel⟩ => ?_
  subst he
  exact ⟨_, rfl, _, _, _, [], _, [], hW', trodAll_mk1 (shut_bool Tryd.underlying4 _), (trodAll_cons_mk (Below.trod laidOut (by kernel_rfl) (of_decide_eq_true (by kernel_rfl)) k0 bel lt0) trodAll_mk0), rfl, bel.frame _, fun h => by cases h⟩
theorem over : Rows.FnExactReadFieldSaid :=
  OpenClaim.holds_of_wide 5 Tryd.f5 rfl rfl rfl rfl rfl rfl rfl ⟨rfl, rfl, rfl, rfl, rfl⟩ rfl rfl rfl rfl rfl (by kernel_rfl) Tryd.func5 (by kernel_rfl)
    (of_decide_eq_true (by kernel_rfl)) (by unfold Func.isWrapper; first | (rw [if_pos (by decide +kernel)]; kernel_rfl) | (rw [if_neg (by decide +kernel)]; exact ⟨rfl, rfl⟩))
    (fun os started H enc _ => lifted os started H enc)
theorem proved : Rows.FnExactReadFieldCardSaid :=
  Claim7.holds_tied_plain_at .later [] [.data, .data, .data, .data, .sentinel, .sentinel, .pinned] true (true, "fcd8ac1ca421c06e49d0f3401219ce30f0e6f3f6342ec0fef69aa1e18ce367f7") true
    over (fun _ h => by cases h) (by kernel_rfl) (fun _ h => by cases h) fnExactReadField_row_tie rfl ⟨rfl, rfl⟩ (by kernel_rfl) rfl
    (fun f fn hf hfn => by
      obtain rfl : f = 5 := Option.some.inj ((show Tryd.prog.funcNamed "loop.example/g00498/laws.FnExactReadField" = some 5 by kernel_rfl).symm.trans hf) |>.symm
      obtain rfl : fn = Tryd.f5 := (Option.some.inj (Tryd.func5.symm.trans hfn)).symm
      exact ⟨by kernel_rfl, fun j t ht => by
        rw [Tryd.params5] at ht
        have hm : t ∈ [9] := by simpa using Array.mem_of_getElem? ht
        have hall : ([9].all fun u => !Tryd.prog.wantsStandIn u) = true := by kernel_rfl
        exact (show Tryd.prog.wantsStandIn t = false by simpa using List.all_eq_true.1 hall t hm)⟩)
    (by kernel_rfl)
end Go.Proofs.YtbpilecgnfnndaaDoor.fnExactReadField

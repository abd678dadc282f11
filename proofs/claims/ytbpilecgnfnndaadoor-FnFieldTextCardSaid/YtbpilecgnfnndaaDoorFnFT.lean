/- FnFieldText: the text of a field that is drawn is the reference's, is read back as the field, and what is read off a text that is drawn is written as that text, for every code. The library's tables read as the program's text lays them (the card ties that). -/
import Derived.Test.YtbpilecgnfnndaaDoorTie
import Derived.Test.YtbpilecgnfnndaaDoorCards
import Derived.LaidMore
import Derived.Lay
import Derived.OpenShut
import Derived.Stop.Joined
import Derived.Stop.LaidErr
import Derived.Shelf.Vars
import Derived.SevenTiedAt
import Derived.Test.YtbpilecgnfnndaaDoorFnFT1
import Derived.Test.YtbpilecgnfnndaaDoorFnFT2
import Derived.Test.YtbpilecgnfnndaaDoorFnFT3
import Derived.Test.YtbpilecgnfnndaaDoorFnFT4
namespace Go.Proofs.YtbpilecgnfnndaaDoor.fnFieldText
set_option linter.unusedSimpArgs false
set_option linter.unusedVariables false
open Go.ChangeShapes Go.WideShapes Go.ChangeAt Go.RowKit Go.BigFrame
theorem tTab : (Tryd.prog.globals[3]?).map (·.type) = some 146 := by kernel_rfl
theorem data_tab : (Rows.laid_internal_strconv_uint64pow10 : DataW Unit) = Lib.tabData .u64 Lib.pow10Tab := by kernel_rfl
theorem tab_of {W : World} {ps : List MemPlace} (h : DataW.LaidVars Tryd.prog W Rows.fnFieldTextRow.laid ps) : TabW W := by
  obtain ⟨g0, t0, cs0, f0, p0, q0, _, _, _, _, ⟨g1, t1, cs1, f1, p1, q1, _, _, _, _, ⟨g2, t2, cs2, f2, p2, q2, hg2, ht2, hv2, hd2, _, _⟩, _⟩, _⟩ := h
  obtain rfl := Option.some.inj (gTab.symm.trans hg2)
  obtain rfl := Option.some.inj (tTab.symm.trans ht2)
  show W.var? Tryd.prog "internal/strconv.uint64pow10" = _
  rw [data_tab] at hd2
  rw [hv2, ← Lib.cells_of_tab (t := 146) (e := 86) Tryd.underlying146 Tryd.underlying86 (by kernel_rfl) (by kernel_rfl) hd2]
theorem starE : "*" ++ "errors.errorString" = "*errors.errorString" := by decide
theorem row_err (u : TypeId) (h : Tryd.prog.typeName? 3 u = some "*errors.errorString") : u = 157 :=
  typeName_ptr_named (nm := "errors.errorString") (by rw [starE]; kernel_rfl) (by kernel_rfl) (by decide) u (by rw [starE]; exact h)
theorem of_laid {W : World} (h : laidMet Tryd.prog Rows.fnFieldTextRow.laid W) (hsh : W.ShapedOpen Tryd.prog) : TxtW W := by
  have h3 := h.tail.tail.tail.tail
  have hr : ∃ (a : Addr) (s : ByteArray), W.var? Tryd.prog "strconv.ErrRange" = some #[.iface 157 (.pointer (some a))] ∧ W.cell? a = some (.string s) ∧ s.data.toList = _ ∧ s.size ≤ maxLen :=
    laid_sentinel h3 gRng (by kernel_rfl) Tryd.underlying81 row_err Tryd.underlying157 Tryd.underlying159 rfl rfl Tryd.underlying9 (by kernel_rfl) (by kernel_rfl)
  have hs : ∃ (a : Addr) (s : ByteArray), W.var? Tryd.prog "strconv.ErrSyntax" = some #[.iface 157 (.pointer (some a))] ∧ W.cell? a = some (.string s) ∧ s.data.toList = _ ∧ s.size ≤ maxLen :=
    laid_sentinel h3.tail gSyn (by kernel_rfl) Tryd.underlying81 row_err Tryd.underlying157 Tryd.underlying159 rfl rfl Tryd.underlying9 (by kernel_rfl) (by kernel_rfl)
  obtain ⟨ar, _, hr, _⟩ := hr
  obtain ⟨asy, _, hs, _⟩ := hs
  obtain ⟨ps, hL, _⟩ := h
  exact ⟨⟨tab_of hL, ⟨_, _, hs⟩, ⟨_, _, hr⟩⟩, cell_of_shapedOpen_int (zero := #[.int .i64 0]) (t := 3) hsh (of_decide_eq_true (by kernel_rfl)) (by kernel_rfl) rfl (by kernel_rfl) (by kernel_rfl) Tryd.underlying3⟩
theorem drawField_any (a : Option Addr) (cap n : Nat) (w : World) (h : Code w a n) (hn : n ≤ 1048576) :
    Calls Tryd.prog 19 #[.slice a n cap] w fun r w' => ∃ f : Fld, r = .returned f.val ∧ Below w.heap.size w w' := by
  go_enter Tryd.func19, Tryd.ntmps19
  go_wp2_with fail
  refine (l1New_any a cap n _ (h.keep (by ((repeat (first | (with_reducible exact Below.refl _ _) | (with_reducible assumption) | (with_reducible refine Below.alloc ?_ ?_ _) | (with_reducible refine Below.setCell ?_ ?_ _) | (with_reducible refine Below.drew ?_) | (with_reducible refine below_setRow ?_ ?_ _) | (refine Below.trans ?_ (Below.mono (by assumption) ?_)))); all_goals (first | omega | (simp; done) | (simp; omega))))) hn).mono ?_
  rintro r w1 ⟨B, rfl, hB, hc, hb1⟩
  simp only [World.size_alloc] at hB
  have hz1 := hb1.size
  simp only [World.size_alloc] at hz1
  have hR1 : w1.heap[w.heap.size]? = some (.cells #[.int .i64 0, .int .i64 0, .bool false, .bool false, .int .i64 0] 25 (0, 0)) := (hb1.block w.heap.size (by simp)).trans (hset_new rfl)
  have hT1 : Below w.heap.size w w1 := ((Below.refl _ _).alloc (Nat.le_refl _) _).trans (hb1.mono (by simp))
  go_wp2_with fail
  refine (l9Field_any B w1 hc).mono ?_
  rintro r w2 ⟨f, rfl, hu⟩
  have hb2 : Below (w.heap.size + 1) w1 w2 := hu.oth.below hB hc.lt
  have hR2 := (hb2.block w.heap.size (by omega)).trans hR1
  have r0 := box_cells hR2 0; have r1 := box_cells hR2 1; have r2 := box_cells hR2 2; have r3 := box_cells hR2 3; have r4 := box_cells hR2 4; have rz := box_frozen hR2; have rl := box_lt hR2
  simp only [List.getElem?_toArray, List.getElem?_cons_zero, List.getElem?_cons_succ] at r0 r1 r2 r3 r4
  have hT2 : Below w.heap.size w w2 := hT1.trans (hb2.mono (by omega))
  clear hR1 hR2 hu hb1 hb2
  obtain ⟨e1, e2, e3, e4, e5⟩ := f
  go_wp2_with fail
  refine bodyPost_ret (v := (⟨e1, e2, e3, e4, e5⟩ : Fld).val) (by simp [results, Tryd.results19, go_sem, rl, r0, r1, r2, r3, r4]) rfl ⟨_, rfl, ((((hT2.setCell (Nat.le_refl _) _).setCell (Nat.le_refl _) _).setCell (Nat.le_refl _) _).setCell (Nat.le_refl _) _).setCell (Nat.le_refl _) _⟩
theorem drawRead_any (a : Option Addr) (cap n : Nat) (w : World) (h : Code w a n) (hn : n ≤ 1048576) :
    Calls Tryd.prog 20 #[.slice a n cap] w fun r w' => ∃ t : ByteArray, r = .returned (.string t) ∧ t.size ≤ 1000 ∧ Below w.heap.size w w' := by
  go_enter Tryd.func20, Tryd.ntmps20
  go_wp2_with fail
  refine (l1New_any a cap n _ h hn).mono ?_
  rintro r w1 ⟨B, rfl, hB, hc, hb1⟩
  have hz1 := hb1.size
  go_wp2_with fail
  refine (l9Field_any B w1 hc).mono ?_
  rintro r w2 ⟨f, rfl, hu⟩
  have hb2 : Below w.heap.size w1 w2 := hu.oth.below hB hc.lt
  have hz2 := hb2.size
  obtain ⟨F, hF⟩ : ∃ F, sB (fieldL f) = F := ⟨_, rfl⟩
  have hFl : F.size ≤ 70 := by
    rw [← hF]
    have : (fieldL f).length ≤ 70 := by
      cases ho : fieldOkT f with
      | true => have := fieldL_short ho; omega
      | false => rw [fieldL_bad ho]; simp
    simpa [ByteArray.size] using this
  have hft : ∀ W : World, Calls Tryd.prog 7 #[f.val] W fun r w' => r = .returned (.string F) ∧ Below W.heap.size W w' := fun W => by
    have := specFieldText_any f W
    rw [hF] at this; exact this
  go_wp2_with fail
  refine (hft _).mono ?_
  rintro r w3 ⟨rfl, hb3⟩
  go_wp2_with fail
  refine (l9Turned_any B F w3 (hu.cur.below hb3) (by omega)).mono ?_
  rintro r w4 ⟨t, rfl, ht, hu4⟩
  have hb4 : Below w.heap.size w3 w4 := hu4.oth.below hB (by have := hc.lt; have := hb3.size; omega)
  go_wp2_with fail
  go_ret
  exact ⟨t, rfl, by omega, (hb1.trans hb2).trans ((hb3.mono (by omega)).trans hb4)⟩
theorem run_eql_fld (f : Fld) (w : World) : (binOp .eql 25 f.val f.val).run Tryd.prog w = .ok (.bool true) w := by
  simp [go_sem]
theorem readI_back {l : List UInt8} {F : Fld} (h : readI l = (F, true)) : fieldL F = l := by
  by_cases hx : ∃ f, fieldOkT f = true ∧ fieldL f = l
  · obtain ⟨f, hf, rfl⟩ := hx
    rw [readI_of hf] at h
    simp only [Prod.mk.injEq, and_true] at h
    rw [h]
  · rw [readI_not fun f hf e => hx ⟨f, hf, e⟩] at h
    simp at h
set_option maxRecDepth 100000 in
set_option maxHeartbeats 4000000 in
theorem walk (w : World) (x : SlArg Int) (hx : x.ok 1 byCs ByOk w) (ht : TxtW w) :
    Calls Tryd.prog 6 #[.slice x.a x.xs.length x.cap] w fun r w' => r = .returned (.bool true) ∧ Below w.heap.size w w' := by
  have hcode := code_of hx
  obtain ⟨a, cap, bs⟩ := x
  obtain ⟨_, _, hle, hcap⟩ := hx
  simp only at hcode hle hcap ⊢
  by_cases hbig : (1048576 : Int) < (bs.length : Int)
  · go_enter Tryd.func6, Tryd.ntmps6
    go_wp2_with (first | (go_at_call 18; refine (big_any _ _ _ _).mono ?_; rintro r w1 ⟨rfl, rfl⟩))
    go_ret
    exact ⟨rfl, by ((repeat (first | (with_reducible exact Below.refl _ _) | (with_reducible assumption) | (with_reducible refine Below.alloc ?_ ?_ _) | (with_reducible refine Below.setCell ?_ ?_ _) | (with_reducible refine Below.drew ?_) | (with_reducible refine below_setRow ?_ ?_ _) | (refine Below.trans ?_ (Below.mono (by assumption) ?_)))); all_goals (first | omega | (simp; done) | (simp; omega)))⟩
  · go_enter Tryd.func6, Tryd.ntmps6
    go_wp2_with (first | (go_at_call 18; refine (big_any _ _ _ _).mono ?_; rintro r w1 ⟨rfl, rfl⟩))
    refine (drawField_any a cap bs.length w hcode (by omega)).mono ?_
    rintro r w1 ⟨f, rfl, hb1⟩
    have HT := Lib.hid ht; clear ht
    have hT1 : Below w.heap.size w w1 := hb1
    have hcode1 := hcode.keep hb1
    obtain ⟨G, hG⟩ : ∃ G, fieldL f = G := ⟨_, rfl⟩
    obtain ⟨S, hS⟩ : ∃ S, sB G = S := ⟨_, rfl⟩
    have hSz : S.size ≤ 70 := by
      rw [← hS, ← hG]
      have : (fieldL f).length ≤ 70 := by
        cases ho : fieldOkT f with
        | true => have := fieldL_short ho; omega
        | false => rw [fieldL_bad ho]; simp
      simpa [ByteArray.size] using this
    have hi1 : ∀ W, TabW W → Calls Tryd.prog 9 #[f.val] W fun r w' => r = .returned (.string S) ∧ Below W.heap.size W w' := fun W hW => by
      have := implFieldText_any f W hW; rw [hG, hS] at this; exact this
    have hs1 : ∀ W, Calls Tryd.prog 7 #[f.val] W fun r w' => r = .returned (.string S) ∧ Below W.heap.size W w' := fun W => by
      have := specFieldText_any f W; rw [hG, hS] at this; exact this
    have hbS : bL S = fieldL f := by rw [← hS, hG]
    have hr1 : ∀ W, TxtW W → Calls Tryd.prog 16 #[.string S] W fun r w' => r = .returned (.tuple #[(if fieldOkT f = true then f else zeroR).val, .bool (fieldOkT f)]) ∧ Below W.heap.size W w' := fun W hW => by
      have := implReadField_any S W hW (by omega)
      cases ho : fieldOkT f with
      | true => rw [hbS, readI_of ho] at this; simpa using this
      | false => rw [hbS, fieldL_bad ho, readI_nil] at this; simpa using this
    have hemp : S.toList.isEmpty = !(fieldOkT f) := by
      have e : S.toList = fieldL f := by rw [ByteArray.toList_eq]; exact hbS
      rw [e]
      cases ho : fieldOkT f with
      | true => have := fieldL_short ho; rw [List.isEmpty_eq_false_iff.2 (by intro e; rw [e] at this; simp at this)]; rfl
      | false => rw [fieldL_bad ho]; rfl
    have hrF := run_eql_fld f
    obtain ⟨X, hX⟩ : ∃ X, (if fieldOkT f = true then f else zeroR) = X := ⟨_, rfl⟩
    obtain ⟨ok, hok⟩ : ∃ ok, fieldOkT f = ok := ⟨_, rfl⟩
    rw [hX, hok] at hr1
    rw [hok] at hemp
    have hXf : ok = true → X = f := fun e => by rw [← hX, hok, e]; rfl
    clear hX hok hbS hS hG hcode
    obtain ⟨n, k, rp, pk, m⟩ := f
    obtain ⟨xn, xk, xrp, xpk, xm⟩ := X
    simp only [Fld.val] at hi1 hs1 hr1 hrF
    go_wp2_with fail
    refine (hi1 _ (HT.out.keep (hT1.alloc hT1.size _)).num.tab).mono ?_
    rintro r w2 ⟨rfl, hb2⟩
    have hz2 := hb2.size
    try simp only [World.size_alloc, World.size_setCell, World.size_drew] at hz2
    have hb2b : Below w1.heap.size w1 w2 := by ((repeat (first | (with_reducible exact Below.refl _ _) | (with_reducible assumption) | (with_reducible refine Below.alloc ?_ ?_ _) | (with_reducible refine Below.setCell ?_ ?_ _) | (with_reducible refine Below.drew ?_) | (with_reducible refine below_setRow ?_ ?_ _) | (refine Below.trans ?_ (Below.mono (by assumption) ?_)))); all_goals (first | omega | (simp; done) | (simp; omega)))
    have kA := box_new0 hb2
    have hBA := box_lt0 hb2
    try simp only [World.size_alloc, World.size_setCell, World.size_drew] at kA
    try simp only [World.size_alloc, World.size_setCell, World.size_drew] at hBA
    clear hb2; have hb2 := hb2b; clear hb2b
    have hT2 : Below w.heap.size w w2 := hT1.trans (hb2.mono hT1.size)
    go_wp2_with fail
    refine (hs1 _).mono ?_
    rintro r w3 ⟨rfl, hb3⟩
    have hz3 := hb3.size
    try simp only [World.size_alloc, World.size_setCell, World.size_drew] at hz3
    have hb3b : Below w2.heap.size w2 w3 := by ((repeat (first | (with_reducible exact Below.refl _ _) | (with_reducible assumption) | (with_reducible refine Below.alloc ?_ ?_ _) | (with_reducible refine Below.setCell ?_ ?_ _) | (with_reducible refine Below.drew ?_) | (with_reducible refine below_setRow ?_ ?_ _) | (refine Below.trans ?_ (Below.mono (by assumption) ?_)))); all_goals (first | omega | (simp; done) | (simp; omega)))
    have kA_ := box_next hb3b hBA kA; clear kA
    have kA := kA_; clear kA_
    have hBA_ := Nat.lt_of_lt_of_le hBA hb3b.size; clear hBA; have hBA := hBA_; clear hBA_
    clear hb3; have hb3 := hb3b; clear hb3b
    have hT3 : Below w.heap.size w w3 := hT2.trans (hb3.mono hT2.size)
    go_wp2_with fail
    refine (hr1 _ (HT.out.keep hT3)).mono ?_
    rintro r w4 ⟨rfl, hb4⟩
    have hz4 := hb4.size
    try simp only [World.size_alloc, World.size_setCell, World.size_drew] at hz4
    have hb4b : Below w3.heap.size w3 w4 := by ((repeat (first | (with_reducible exact Below.refl _ _) | (with_reducible assumption) | (with_reducible refine Below.alloc ?_ ?_ _) | (with_reducible refine Below.setCell ?_ ?_ _) | (with_reducible refine Below.drew ?_) | (with_reducible refine below_setRow ?_ ?_ _) | (refine Below.trans ?_ (Below.mono (by assumption) ?_)))); all_goals (first | omega | (simp; done) | (simp; omega)))
    have kA_ := box_next hb4b hBA kA; clear kA
    have kA := kA_; clear kA_
    have hBA_ := Nat.lt_of_lt_of_le hBA hb4b.size; clear hBA; have hBA := hBA_; clear hBA_
    clear hb4; have hb4 := hb4b; clear hb4b
    have hT4 : Below w.heap.size w w4 := hT3.trans (hb4.mono hT3.size)
    have hcode4 := ((hcode1.keep hb2).keep hb3).keep hb4
    clear hcode1 hi1 hs1 hr1
    go_wp2_with fail
    refine (drawRead_any a cap bs.length _ (hcode4.keep ((Below.refl _ _).alloc (Nat.le_refl _) _)) (by omega)).mono ?_
    rintro r w5 ⟨T, rfl, hTz, hb5⟩
    have hz5 := hb5.size
    try simp only [World.size_alloc, World.size_setCell, World.size_drew] at hz5
    have hb5b : Below w4.heap.size w4 w5 := by ((repeat (first | (with_reducible exact Below.refl _ _) | (with_reducible assumption) | (with_reducible refine Below.alloc ?_ ?_ _) | (with_reducible refine Below.setCell ?_ ?_ _) | (with_reducible refine Below.drew ?_) | (with_reducible refine below_setRow ?_ ?_ _) | (refine Below.trans ?_ (Below.mono (by assumption) ?_)))); all_goals (first | omega | (simp; done) | (simp; omega)))
    have kA_ := box_next hb5b hBA kA; clear kA
    have kA := kA_; clear kA_
    have hBA_ := Nat.lt_of_lt_of_le hBA hb5b.size; clear hBA; have hBA := hBA_; clear hBA_
    have kX := box_new0 hb5
    have hBX := box_lt0 hb5
    try simp only [World.size_alloc, World.size_setCell, World.size_drew] at kX
    try simp only [World.size_alloc, World.size_setCell, World.size_drew] at hBX
    clear hb5; have hb5 := hb5b; clear hb5b
    have hT5 : Below w.heap.size w w5 := hT4.trans (hb5.mono hT4.size)
    obtain ⟨⟨Y, R⟩, hY⟩ : ∃ Y, readI (bL T) = Y := ⟨_, rfl⟩
    have hr2 : ∀ W, TxtW W → Calls Tryd.prog 16 #[.string T] W fun r w' => r = .returned (.tuple #[Y.val, .bool R]) ∧ Below W.heap.size W w' := fun W hW => by
      have := implReadField_any T W hW (by omega)
      rw [hY] at this; exact this
    have hi2 : R = true → ∀ W, TabW W → Calls Tryd.prog 9 #[Y.val] W fun r w' => r = .returned (.string T) ∧ Below W.heap.size W w' := fun e W hW => by
      have := implFieldText_any Y W hW
      rw [readI_back (by rw [hY, e]), sB, ← str_of_bL] at this; exact this
    clear hY hcode4
    obtain ⟨yn, yk, yrp, ypk, ym⟩ := Y
    simp only [Fld.val] at hr2 hi2
    go_wp2_with fail
    refine (hr2 _ (HT.out.keep hT5)).mono ?_
    rintro r w6 ⟨rfl, hb6⟩
    have hz6 := hb6.size
    try simp only [World.size_alloc, World.size_setCell, World.size_drew] at hz6
    have hb6b : Below w5.heap.size w5 w6 := by ((repeat (first | (with_reducible exact Below.refl _ _) | (with_reducible assumption) | (with_reducible refine Below.alloc ?_ ?_ _) | (with_reducible refine Below.setCell ?_ ?_ _) | (with_reducible refine Below.drew ?_) | (with_reducible refine below_setRow ?_ ?_ _) | (refine Below.trans ?_ (Below.mono (by assumption) ?_)))); all_goals (first | omega | (simp; done) | (simp; omega)))
    have kA_ := box_next hb6b hBA kA; clear kA
    have kA := kA_; clear kA_
    have hBA_ := Nat.lt_of_lt_of_le hBA hb6b.size; clear hBA; have hBA := hBA_; clear hBA_
    have kX_ := box_next hb6b hBX kX; clear kX
    have kX := kX_; clear kX_
    have hBX_ := Nat.lt_of_lt_of_le hBX hb6b.size; clear hBX; have hBX := hBX_; clear hBX_
    clear hb6; have hb6 := hb6b; clear hb6b
    have hT6 : Below w.heap.size w w6 := hT5.trans (hb6.mono hT5.size)
    have hT7 : Below w.heap.size w (w6.alloc (.cells #[.int .i64 yn, .int .i64 yk, .bool yrp, .bool ypk, .int .i64 ym] 25)) := hT6.alloc hT6.size _
    cases R
    · cases ok
      · go_wp2_with fail
        go_ret
        exact ⟨rfl, hT7⟩
      · have e := hXf rfl
        simp only [Fld.mk.injEq] at e
        obtain ⟨rfl, rfl, rfl, rfl, rfl⟩ := e
        go_wp2_with fail
        go_ret
        exact ⟨rfl, hT7⟩
    · have hi3 := hi2 rfl
      clear hi2
      cases ok
      · go_wp2_with fail
        refine (hi3 _ (HT.out.keep hT7).num.tab).mono ?_
        rintro r w8 ⟨rfl, hb8⟩
        go_wp2_with fail
        go_ret
        exact ⟨rfl, hT7.trans (hb8.mono hT7.size)⟩
      · have e := hXf rfl
        simp only [Fld.mk.injEq] at e
        obtain ⟨rfl, rfl, rfl, rfl, rfl⟩ := e
        go_wp2_with fail
        refine (hi3 _ (HT.out.keep hT7).num.tab).mono ?_
        rintro r w8 ⟨rfl, hb8⟩
        go_wp2_with fail
        go_ret
        exact ⟨rfl, hT7.trans (hb8.mono hT7.size)⟩
set_option maxRecDepth 100000 in
theorem lifted (os : Os) (started : os.Started) (H : Type) (enc : TypeId × Value → H) :
    ReturnsInHanded {} Tryd.checked os 6 .any (fun w args => (Rows.fnFieldTextSpec.pre enc Tryd.prog Tryd.f6 [] false w args ∧ laidMetH Tryd.prog Rows.fnFieldTextRow.laid w) ∧ sizedMet enc Tryd.prog Tryd.f6 (OpenSpec.ofChange Rows.fnFieldTextSpec) false w args)
      (Rows.fnFieldTextSpec.post enc Tryd.prog Tryd.f6 false true false false) := by
  refine wrap_laid (C := Tryd.checked) (X := fun w => laidMetH Tryd.prog Rows.fnFieldTextRow.laid w) (fun _ _ hh h => h.of_heap hh) own started (by kernel_rfl) Tryd.func6
    (ChangeSpec.witness_shaped (enc := enc) (C := Tryd.checked) (os := os) (X := fun w _ => laidMetH Tryd.prog Rows.fnFieldTextRow.laid w) false (World.laidAll Tryd.prog os Rows.fnFieldTextRow.laid) #[.slice none 0 0] 8 (World.laidAll_os _ _ _) (World.shaped_of_ZipB (by kernel_rfl) (by kernel_rfl)) (by kernel_rfl) (by kernel_rfl) (by kernel_rfl) (by rw [MakeChecks.laidMetH_plain _ _ _ (by kernel_rfl)]; exact laidMet_laidAll _ (by kernel_rfl) (by kernel_rfl))) ?_
  intro W base args ds gs before hval0 hW _ _ hL hsh
  have hval : ∀ (j : Nat) t v, Tryd.f6.params[j]? = some t → args[j]? = some v → Value.okWide Tryd.prog W .any base t v := hval0
  have hW' := hW
  obtain ⟨p, q, hA0, hV, rfl, hfz, hnd⟩ := hW
  have hA : DataW.TrodAll enc Tryd.prog W 0 (fun _ => true) true Tryd.f6.params.toList args.toList ds p := hA0
  rw [Tryd.params6] at hA hval
  obtain ⟨v0, vs0, d0, ds0, p0, q0, hargs, rfl, rfl, h0, r0⟩ := trodAll_cons hA
  obtain ⟨rfl, rfl, rfl⟩ := trodAll_nil r0
  obtain rfl : args = #[v0] := by cases args; simp_all
  obtain ⟨rfl, rfl⟩ := trodVars_none hV
  have k0 := h0
  have lt0 : ∀ x ∈ p0, x.block < W.heap.size := by obtain ⟨m, hm⟩ := k0; exact DataW.trod_lt m _ _ _ hm
  obtain ⟨x0, e0, w0⟩ := openBytes (hval 0 43 v0 rfl rfl) h0
  subst e0
  clear hA0 hval0
  rw [MakeChecks.laidMetH_plain _ _ _ (by kernel_rfl)] at hL
  refine (walk W x0 w0 (of_laid hL hsh)).mono fun e W' ⟨he, bel⟩ => ?_
  subst he
  exact ⟨_, rfl, _, _, _, [], _, [], hW', trodAll_mk1 (shut_bool Tryd.underlying4 _), (trodAll_cons_mk (Below.trod laidOut (by kernel_rfl) (of_decide_eq_true (by kernel_rfl)) k0 bel lt0) trodAll_mk0), rfl, bel.frame _, fun h => by cases h⟩
theorem over : Rows.FnFieldTextSaid :=
  OpenClaim.holds_of_wide 6 Tryd.f6 rfl rfl rfl rfl rfl rfl rfl ⟨rfl, rfl, rfl, rfl, rfl⟩ rfl rfl rfl rfl rfl (by kernel_rfl) Tryd.func6 (by kernel_rfl)
    (of_decide_eq_true (by kernel_rfl)) (by unfold Func.isWrapper; first | (rw [if_pos (by decide +kernel)]; kernel_rfl) | (rw [if_neg (by decide +kernel)]; exact ⟨rfl, rfl⟩))
    (fun os started H enc _ => lifted os started H enc)
theorem proved : Rows.FnFieldTextCardSaid :=
  Claim7.holds_tied_plain_at .later [] [.data, .data, .data, .data, .sentinel, .sentinel, .pinned] true (true, "fcd8ac1ca421c06e49d0f3401219ce30f0e6f3f6342ec0fef69aa1e18ce367f7") true
    over (fun _ h => by cases h) (by kernel_rfl) (fun _ h => by cases h) fnFieldText_row_tie rfl ⟨rfl, rfl⟩ (by kernel_rfl) rfl
    (fun f fn hf hfn => by
      obtain rfl : f = 6 := Option.some.inj ((show Tryd.prog.funcNamed "loop.example/g00498/laws.FnFieldText" = some 6 by kernel_rfl).symm.trans hf) |>.symm
      obtain rfl : fn = Tryd.f6 := (Option.some.inj (Tryd.func6.symm.trans hfn)).symm
      exact ⟨by kernel_rfl, fun j t ht => by
        rw [Tryd.params6] at ht
        have hm : t ∈ [43] := by simpa using Array.mem_of_getElem? ht
        have hall : ([43].all fun u => !Tryd.prog.wantsStandIn u) = true := by kernel_rfl
        exact (show Tryd.prog.wantsStandIn t = false by simpa using List.all_eq_true.1 hall t hm)⟩)
    (by kernel_rfl)
end Go.Proofs.YtbpilecgnfnndaaDoor.fnFieldText

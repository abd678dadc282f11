/- FnRawText: the text of a description that is drawn is read back as the description, of one that is not valid there is none, and what is read off a text that is drawn is what the reference reads, is valid and is written as that text, for every code. The library's tables read as the program's text lays them (the card ties that). -/
import Derived.Test.YtbjbgneiglopmaaGreatDoorTie
import Derived.Test.YtbjbgneiglopmaaGreatDoorCards
import Derived.LaidMore
import Derived.Lay
import Derived.OpenShut
import Derived.Stop.Joined
import Derived.Stop.LaidErr
import Derived.Shelf.Vars
import Derived.SevenTiedAt
import Derived.Test.YtbjbgneiglopmaaGreatDoorFnRT1
import Derived.Test.YtbjbgneiglopmaaGreatDoorFnRT2
import Derived.Test.YtbjbgneiglopmaaGreatDoorFnRT3
import Derived.Test.YtbjbgneiglopmaaGreatDoorFnRT4
import Derived.Test.YtbjbgneiglopmaaGreatDoorFnRT5
import Derived.Test.YtbjbgneiglopmaaGreatDoorFnRT6
import Derived.Test.YtbjbgneiglopmaaGreatDoorFnRT7
import Derived.Test.YtbjbgneiglopmaaGreatDoorFnRT8
namespace Go.Proofs.YtbjbgneiglopmaaGreatDoor.fnRawText
set_option linter.unusedSimpArgs false
set_option linter.unusedVariables false
open Go.ChangeShapes Go.WideShapes Go.ChangeAt Go.RowKit Go.BigFrame
theorem tTab : (Tryz.prog.globals[5]?).map (·.type) = some 144 := by kernel_rfl
theorem data_tab : (Rows.laid_internal_strconv_uint64pow10 : DataW Unit) = Lib.tabData .u64 Lib.pow10Tab := by kernel_rfl
theorem tab_of {W : World} {ps : List MemPlace} (h : DataW.LaidVars Tryz.prog W Rows.fnRawTextRow.laid ps) : TabW W := by
  obtain ⟨g0, t0, cs0, f0, p0, q0, _, _, _, _, ⟨g1, t1, cs1, f1, p1, q1, _, _, _, _, ⟨g2, t2, cs2, f2, p2, q2, hg2, ht2, hv2, hd2, _, _⟩, _⟩, _⟩ := h
  obtain rfl := Option.some.inj (gTab.symm.trans hg2)
  obtain rfl := Option.some.inj (tTab.symm.trans ht2)
  show W.var? Tryz.prog "internal/strconv.uint64pow10" = _
  rw [data_tab] at hd2
  rw [hv2, ← Lib.cells_of_tab (t := 144) (e := 62) Tryz.underlying144 Tryz.underlying62 (by kernel_rfl) (by kernel_rfl) hd2]
theorem starE : "*" ++ "errors.errorString" = "*errors.errorString" := by decide
theorem row_err (u : TypeId) (h : Tryz.prog.typeName? 3 u = some "*errors.errorString") : u = 140 :=
  typeName_ptr_named (nm := "errors.errorString") (by rw [starE]; kernel_rfl) (by kernel_rfl) (by decide) u (by rw [starE]; exact h)
theorem of_laid {W : World} (h : laidMet Tryz.prog Rows.fnRawTextRow.laid W) (hsh : W.ShapedOpen Tryz.prog) : TxtW W := by
  have h3 := h.tail.tail.tail.tail
  have hr : ∃ (a : Addr) (s : ByteArray), W.var? Tryz.prog "strconv.ErrRange" = some #[.iface 140 (.pointer (some a))] ∧ W.cell? a = some (.string s) ∧ s.data.toList = _ ∧ s.size ≤ maxLen :=
    laid_sentinel h3 gRng (by kernel_rfl) Tryz.underlying67 row_err Tryz.underlying140 Tryz.underlying142 rfl rfl Tryz.underlying9 (by kernel_rfl) (by kernel_rfl)
  have hs : ∃ (a : Addr) (s : ByteArray), W.var? Tryz.prog "strconv.ErrSyntax" = some #[.iface 140 (.pointer (some a))] ∧ W.cell? a = some (.string s) ∧ s.data.toList = _ ∧ s.size ≤ maxLen :=
    laid_sentinel h3.tail gSyn (by kernel_rfl) Tryz.underlying67 row_err Tryz.underlying140 Tryz.underlying142 rfl rfl Tryz.underlying9 (by kernel_rfl) (by kernel_rfl)
  obtain ⟨ar, _, hr, _⟩ := hr
  obtain ⟨asy, _, hs, _⟩ := hs
  obtain ⟨ps, hL, _⟩ := h
  exact ⟨⟨tab_of hL, ⟨_, _, hs⟩, ⟨_, _, hr⟩⟩, cell_of_shapedOpen_int (zero := #[.int .i64 0]) (t := 3) hsh (of_decide_eq_true (by kernel_rfl)) (by kernel_rfl) rfl (by kernel_rfl) (by kernel_rfl) Tryz.underlying3⟩
def DrawnRF (w : World) (r : Ending) (w' : World) : Prop :=
  ∃ a n cap rs xs, r = .returned (.agg #[.slice a n cap]) ∧ OwnShs w' w.heap.size 40 44 (.slice a n cap) n rs xs ∧ RawB xs ∧ Below w.heap.size w w'
set_option maxHeartbeats 2000000 in
theorem drawRawText_any (a : Option Addr) (cap n : Nat) (w : World) (h : Code w a n) (hn : n ≤ 1048576) :
    Calls Tryz.prog 11 #[.slice a n cap] w (DrawnRF w) := by
  go_enter Tryz.func11, Tryz.ntmps11
  go_wp2_with fail
  refine (l1New_any a cap n _ (h.keep (by ((repeat (first | (with_reducible exact Below.refl _ _) | (with_reducible assumption) | (with_reducible refine Below.alloc ?_ ?_ _) | (with_reducible refine Below.setCell ?_ ?_ _) | (with_reducible refine Below.drew ?_) | (with_reducible refine below_setRow ?_ ?_ _) | (refine Below.trans ?_ (Below.mono (by assumption) ?_)))); all_goals (first | omega | (simp; done) | (simp; omega))))) hn).mono ?_
  rintro r w1 ⟨B, rfl, hB, hc, hb1⟩
  simp only [World.size_alloc] at hB
  go_wp2_with fail
  refine (l6Bent_any B w1 hc).mono ?_
  rintro r w2 ⟨a2, m, cap2, rs, xs, rfl, ho, hg, hu⟩
  have hb2 : Below (w.heap.size + 1) w1 w2 := hu.oth.below hB hc.lt
  have hbw : Below w.heap.size w w2 := ((Below.refl _ _).alloc (Nat.le_refl _) _).trans ((hb1.mono (by simp)).trans (hb2.mono (by omega)))
  have hz1 := hb1.size
  simp only [World.size_alloc] at hz1
  have hR2 := (hb2.block w.heap.size (by omega)).trans ((hb1.block w.heap.size (by simp)).trans (hset_new (o := .cells #[.slice none 0 0] 24 (0, 0)) rfl))
  have kR := box_cells hR2 0; have fR := box_frozen hR2; have hlR := box_lt hR2
  simp only [List.getElem?_toArray, List.getElem?_cons_zero] at kR
  have HR2 := Lib.hid hR2; have HO := Lib.hid ho; clear hR2 ho
  go_wp2_with fail
  refine bodyPost_ret (results_cell Tryz.results11 rfl (run_loadVar_mid _ w.heap.size 0 24 [.slice a2 m cap2] _ (range_of_box (t := 24) ?_) Tryz.underlying24 rfl (by kernel_rfl))) rfl ⟨_, _, _, _, _, rfl, (HO.out.set (by simp; omega) _).le (by omega), hg, hbw.setCell (Nat.le_refl _) _⟩
  apply hset_eq (hset_set HR2.out); simp only [List.setIfInBounds_toArray, List.set_cons_zero]
theorem rawB_tx {xs : List Shp} (h : RawB xs) : TxB xs := ⟨h.n, h.len, fun x hx => (h.ok x hx).id.lo⟩
theorem txB_len {xs : List Shp} (h : TxB xs) : (txtL xs).length ≤ 8000 := by
  have := h.txt xs.length
  rwa [List.take_length] at this
theorem sB_size (l : List UInt8) : (sB l).size = l.length := by simp [ByteArray.size]
set_option maxHeartbeats 2000000 in
theorem drawReadRaw_any (a : Option Addr) (cap n : Nat) (w : World) (h : Code w a n) (hn : n ≤ 1048576) :
    Calls Tryz.prog 14 #[.slice a n cap] w fun r w' => ∃ t : ByteArray, r = .returned (.string t) ∧ t.size ≤ 10000 ∧ Below w.heap.size w w' := by
  go_enter Tryz.func14, Tryz.ntmps14
  go_wp2_with fail
  refine (l1New_any a cap n _ h hn).mono ?_
  rintro r w1 ⟨B, rfl, hB, hc, hb1⟩
  have hz1 := hb1.size
  go_wp2_with fail
  refine (l6Bent_any B w1 hc).mono ?_
  rintro r w2 ⟨a2, m, cap2, rs, xs, rfl, ho, hg, hu⟩
  have hb2 : Below w.heap.size w1 w2 := hu.oth.below hB hc.lt
  have hz2 := hb2.size
  have hBx := rawB_tx hg
  have HS := Lib.hid ho.shs; have HX := Lib.hid ho.lenx; clear ho
  obtain ⟨F, hF⟩ : ∃ F, sB (txtL xs) = F := ⟨_, rfl⟩
  have hFl : F.size ≤ 8000 := by rw [← hF, sB_size]; exact txB_len hBx
  have hft : ∀ W : World, Shs W a2 xs → Calls Tryz.prog 35 #[.agg #[.slice a2 m cap2]] W fun r w' => r = .returned (.string F) ∧ Below W.heap.size W w' := fun W hW => by
    have := l9Text_any a2 cap2 m xs W hW HX.out hBx
    rw [hF] at this; exact this
  clear hF
  go_wp2_with fail
  refine (hft _ (HS.out.keep (by ((repeat (first | (with_reducible exact Below.refl _ _) | (with_reducible assumption) | (with_reducible refine Below.alloc ?_ ?_ _) | (with_reducible refine Below.setCell ?_ ?_ _) | (with_reducible refine Below.drew ?_) | (with_reducible refine below_setRow ?_ ?_ _) | (refine Below.trans ?_ (Below.mono (by assumption) ?_)))); all_goals (first | omega | (simp; done) | (simp; omega)))))).mono ?_
  rintro r w3 ⟨rfl, hb3⟩
  go_wp2_with fail
  refine (l9Turned_any B F w3 (hu.cur.below hb3) (by omega)).mono ?_
  rintro r w4 ⟨t, rfl, ht, hu4⟩
  have hb4 : Below w.heap.size w3 w4 := hu4.oth.below hB (by have := hc.lt; have := hb3.size; omega)
  go_wp2_with fail
  go_ret
  exact ⟨t, rfl, by omega, (hb1.trans hb2).trans ((hb3.mono (by omega)).trans hb4)⟩
theorem rawI_sum (l : List UInt8) : fldSum (rawI l).1 ≤ 1048576 := by
  rw [rawI]; split
  · simp [fldSum]
  · split
    · exact (rawsI_size l).2
    · simp [fldSum]
theorem rawI_none : rawI [] = ([], true) := rfl
set_option maxRecDepth 100000 in
set_option maxHeartbeats 4000000 in
theorem walk (w : World) (x : SlArg Int) (hx : x.ok 1 byCs ByOk w) (ht : TxtW w) :
    Calls Tryz.prog 4 #[.slice x.a x.xs.length x.cap] w fun r w' => r = .returned (.bool true) ∧ Below w.heap.size w w' := by
  have hcode := code_of hx
  obtain ⟨a, cap, bs⟩ := x
  obtain ⟨_, _, hle, hcap⟩ := hx
  simp only at hcode hle hcap ⊢
  by_cases hbig : (1048576 : Int) < (bs.length : Int)
  · go_enter Tryz.func4, Tryz.ntmps4
    go_wp2_with (first | (go_at_call 10; refine (big_any _ _ _ _).mono ?_; rintro r w1 ⟨rfl, rfl⟩))
    go_ret
    exact ⟨rfl, by ((repeat (first | (with_reducible exact Below.refl _ _) | (with_reducible assumption) | (with_reducible refine Below.alloc ?_ ?_ _) | (with_reducible refine Below.setCell ?_ ?_ _) | (with_reducible refine Below.drew ?_) | (with_reducible refine below_setRow ?_ ?_ _) | (refine Below.trans ?_ (Below.mono (by assumption) ?_)))); all_goals (first | omega | (simp; done) | (simp; omega)))⟩
  · go_enter Tryz.func4, Tryz.ntmps4
    go_wp2_with (first | (go_at_call 10; refine (big_any _ _ _ _).mono ?_; rintro r w1 ⟨rfl, rfl⟩))
    refine (drawRawText_any a cap bs.length w hcode (by omega)).mono ?_
    rintro r w1 ⟨a1, n, cap1, rs, xs, rfl, ho, hg, hb1⟩
    have HC := Lib.hid (hcode.keep hb1); have HT := Lib.hid ht; clear ht hcode
    have hT1 : Below w.heap.size w w1 := hb1
    have hms := hg.sum
    have hcp1 := own_lecapR ho.outer
    have HX := Lib.hid ho.lenx
    have HL1 := Lib.hid ho.shsL; clear ho
    have hn7 : n ≤ 7 := by have := hg.n; have := HX.out; omega
    have hBx := rawB_tx hg
    obtain ⟨S, hS⟩ : ∃ S, sB (rawTextL xs) = S := ⟨_, rfl⟩
    have hSz : S.size ≤ 8000 := by
      rw [← hS, sB_size, rawTextL]
      split
      · exact txB_len hBx
      · simp
    have hi1 : ∀ W, ShsL W a1 xs → TabW W → Calls Tryz.prog 12 #[.agg #[.slice a1 n cap1]] W fun r w' => r = .returned (.string S) ∧ Below W.heap.size W w' := fun W hW hTb => by
      have := implRawText_any a1 cap1 n xs W hW HX.out (by omega) hcp1 hms hTb
      rw [hS] at this; exact this
    have hbS : bL S = rawTextL xs := by rw [← hS]
    obtain ⟨ok, hok⟩ : ∃ ok, rawOk xs = ok := ⟨_, rfl⟩
    obtain ⟨X, hX⟩ : ∃ X, (if ok = true then xs else []) = X := ⟨_, rfl⟩
    have hr1 : ∀ W, TxtW W → Calls Tryz.prog 6 #[.string S] W (FreshRd W X.length X true) := fun W hW => by
      have := implReadRaw_any S W hW (by omega)
      rw [hbS] at this
      cases ok with
      | true =>
        rw [rawTextL_ok hok, rawI_of hok] at this
        rw [if_pos rfl] at hX
        subst hX; exact this
      | false =>
        rw [rawTextL, hok, if_neg (by simp), rawI_none] at this
        rw [if_neg (by simp)] at hX
        subst hX; exact this
    have hemp : ok = false → S.toList.isEmpty = true := fun e => by
      have : S.toList = rawTextL xs := by rw [ByteArray.toList_eq]; exact hbS
      rw [this, rawTextL, hok, e]; rfl
    have hk1 : ∀ W, ShsL W a1 xs → Calls Tryz.prog 13 #[.agg #[.slice a1 n cap1]] W fun r w' => r = .returned (.bool ok) ∧ Below W.heap.size W w' := fun W hW => by
      have := specRawOk_any a1 cap1 n xs W hW HX.out (by omega) hms
      rw [hok] at this; exact this
    clear hok hbS hS
    go_wp2_with fail
    refine (hi1 _ (HL1.out.keep (by ((repeat (first | (with_reducible exact Below.refl _ _) | (with_reducible assumption) | (with_reducible refine Below.alloc ?_ ?_ _) | (with_reducible refine Below.setCell ?_ ?_ _) | (with_reducible refine Below.drew ?_) | (with_reducible refine below_setRow ?_ ?_ _) | (refine Below.trans ?_ (Below.mono (by assumption) ?_)))); all_goals (first | omega | (simp; done) | (simp; omega))))) (HT.out.keep (hT1.alloc hT1.size _)).num.tab).mono ?_
    rintro r w2 ⟨rfl, hb2⟩
    have hz2 := hb2.size
    try simp only [World.size_alloc, World.size_setCell, World.size_drew] at hz2
    have hb2b : Below w1.heap.size w1 w2 := by ((repeat (first | (with_reducible exact Below.refl _ _) | (with_reducible assumption) | (with_reducible refine Below.alloc ?_ ?_ _) | (with_reducible refine Below.setCell ?_ ?_ _) | (with_reducible refine Below.drew ?_) | (with_reducible refine below_setRow ?_ ?_ _) | (refine Below.trans ?_ (Below.mono (by assumption) ?_)))); all_goals (first | omega | (simp; done) | (simp; omega)))
    have kA := box_new0 hb2
    have hBA := box_lt0 hb2
    try simp only [World.size_alloc, World.size_setCell, World.size_drew] at kA
    try simp only [World.size_alloc, World.size_setCell, World.size_drew] at hBA
    clear hb2; have hb2 := hb2b; clear hb2b
    have hT2 : Below w.heap.size w w2 := hT1.trans (hb2.mono hT1.size)
    have HL2 := Lib.hid (HL1.out.keep hb2); have HC2 := Lib.hid (HC.out.keep hb2); clear HL1 HC hi1
    go_wp2_with fail
    refine (hr1 _ (HT.out.keep hT2)).mono ?_
    rintro r w3 ⟨a3, cap3, rs3, rfl, ho3, hb3⟩
    have hz3 := hb3.size
    try simp only [World.size_alloc, World.size_setCell, World.size_drew] at hz3
    have hb3b : Below w2.heap.size w2 w3 := by ((repeat (first | (with_reducible exact Below.refl _ _) | (with_reducible assumption) | (with_reducible refine Below.alloc ?_ ?_ _) | (with_reducible refine Below.setCell ?_ ?_ _) | (with_reducible refine Below.drew ?_) | (with_reducible refine below_setRow ?_ ?_ _) | (refine Below.trans ?_ (Below.mono (by assumption) ?_)))); all_goals (first | omega | (simp; done) | (simp; omega)))
    have kA_ := box_next hb3b hBA kA; clear kA
    have kA := kA_; clear kA_
    have hBA_ := Nat.lt_of_lt_of_le hBA hb3b.size; clear hBA; have hBA := hBA_; clear hBA_
    clear hb3; have hb3 := hb3b; clear hb3b
    have hT3 : Below w.heap.size w w3 := hT2.trans (hb3.mono hT2.size)
    have HL3 := Lib.hid (HL2.out.keep hb3); have HC3 := Lib.hid (HC2.out.keep hb3); clear HL2 HC2 hr1
    have HX3 := Lib.hid ho3.shs; clear ho3
    go_wp2_with fail
    refine (hk1 _ (HL3.out.keep (by ((repeat (first | (with_reducible exact Below.refl _ _) | (with_reducible assumption) | (with_reducible refine Below.alloc ?_ ?_ _) | (with_reducible refine Below.setCell ?_ ?_ _) | (with_reducible refine Below.drew ?_) | (with_reducible refine below_setRow ?_ ?_ _) | (refine Below.trans ?_ (Below.mono (by assumption) ?_)))); all_goals (first | omega | (simp; done) | (simp; omega)))))).mono ?_
    rintro r w4 ⟨rfl, hb4⟩
    have hz4 := hb4.size
    try simp only [World.size_alloc, World.size_setCell, World.size_drew] at hz4
    have hb4b : Below w3.heap.size w3 w4 := by ((repeat (first | (with_reducible exact Below.refl _ _) | (with_reducible assumption) | (with_reducible refine Below.alloc ?_ ?_ _) | (with_reducible refine Below.setCell ?_ ?_ _) | (with_reducible refine Below.drew ?_) | (with_reducible refine below_setRow ?_ ?_ _) | (refine Below.trans ?_ (Below.mono (by assumption) ?_)))); all_goals (first | omega | (simp; done) | (simp; omega)))
    have kA_ := box_next hb4b hBA kA; clear kA
    have kA := kA_; clear kA_
    have hBA_ := Nat.lt_of_lt_of_le hBA hb4b.size; clear hBA; have hBA := hBA_; clear hBA_
    have kX := box_new0 hb4
    have hBX := box_lt0 hb4
    try simp only [World.size_alloc, World.size_setCell, World.size_drew] at kX
    try simp only [World.size_alloc, World.size_setCell, World.size_drew] at hBX
    clear hb4; have hb4 := hb4b; clear hb4b
    have hT4 : Below w.heap.size w w4 := hT3.trans (hb4.mono hT3.size)
    have HL4 := Lib.hid (HL3.out.keep hb4); have HC4 := Lib.hid (HC3.out.keep hb4); have HX4 := Lib.hid (HX3.out.keep hb4); clear HL3 HC3 HX3 hk1
    cases ok
    · rw [if_neg (by simp)] at hX
      have he := hemp rfl
      clear hemp
      subst hX
      simp only [List.length_nil] at kX
      go_wp2_with fail
      go_ret
      exact ⟨rfl, hT4⟩
    · rw [if_pos rfl] at hX
      clear hemp
      subst hX
      go_wp2_with fail
      refine (drawReadRaw_any a cap bs.length _ (HC4.out.keep (by ((repeat (first | (with_reducible exact Below.refl _ _) | (with_reducible assumption) | (with_reducible refine Below.alloc ?_ ?_ _) | (with_reducible refine Below.setCell ?_ ?_ _) | (with_reducible refine Below.drew ?_) | (with_reducible refine below_setRow ?_ ?_ _) | (refine Below.trans ?_ (Below.mono (by assumption) ?_)))); all_goals (first | omega | (simp; done) | (simp; omega))))) (by omega)).mono ?_
      rintro r w5 ⟨T, rfl, hTz, hb5⟩
      have hz5 := hb5.size
      try simp only [World.size_alloc, World.size_setCell, World.size_drew] at hz5
      have hb5b : Below w4.heap.size w4 w5 := by ((repeat (first | (with_reducible exact Below.refl _ _) | (with_reducible assumption) | (with_reducible refine Below.alloc ?_ ?_ _) | (with_reducible refine Below.setCell ?_ ?_ _) | (with_reducible refine Below.drew ?_) | (with_reducible refine below_setRow ?_ ?_ _) | (refine Below.trans ?_ (Below.mono (by assumption) ?_)))); all_goals (first | omega | (simp; done) | (simp; omega)))
      have kA_ := box_next hb5b hBA kA; clear kA
      have kA := kA_; clear kA_
      have hBA_ := Nat.lt_of_lt_of_le hBA hb5b.size; clear hBA; have hBA := hBA_; clear hBA_
      have kX_ := box_next hb5b hBX kX; clear kX
      have kX := kX_; clear kX_
      have hBX_ := Nat.lt_of_lt_of_le hBX hb5b.size; clear hBX; have hBX := hBX_; clear hBX_
      clear hb5; have hb5 := hb5b; clear hb5b
      have hT5 : Below w.heap.size w w5 := hT4.trans (hb5.mono hT4.size)
      have HL5 := Lib.hid (HL4.out.keep hb5); have HX5 := Lib.hid (HX4.out.keep hb5); clear HL4 HC4 HX4
      obtain ⟨⟨Y, R⟩, hY⟩ : ∃ Y, rawI (bL T) = Y := ⟨_, rfl⟩
      have hv : RawVal Y := rawOk_val (by have := rawI_val (l := bL T); rw [hY] at this; exact this)
      have hnY : Y.length ≤ 1048576 := by have := hv.n; omega
      have hmY : fldSum Y ≤ 1048576 := by have := rawI_sum (bL T); rw [hY] at this; exact this
      have hr2 : ∀ W, TxtW W → Calls Tryz.prog 6 #[.string T] W (FreshRd W Y.length Y R) := fun W hW => by
        have := implReadRaw_any T W hW (by omega)
        rw [hY] at this; exact this
      have hr3 : ∀ W, Calls Tryz.prog 5 #[.string T] W (FreshRd W Y.length Y R) := fun W => by
        have := specReadRaw_any T W (by omega)
        rw [← raw_same, hY] at this; exact this
      have hi2 : R = true → ∀ (W : World) (a : Option Addr) (cap : Nat), ShsL W a Y → TabW W → Y.length ≤ cap → Calls Tryz.prog 12 #[.agg #[.slice a Y.length cap]] W fun r w' => r = .returned (.string T) ∧ Below W.heap.size W w' := fun e W a cap hW hTb hc => by
        have := implRawText_any a cap Y.length Y W hW rfl hnY hc hmY hTb
        rw [(rawI_back (by rw [hY, e])).1, sB, ← str_of_bL] at this; exact this
      have hk2 : R = true → ∀ (W : World) (a : Option Addr) (cap : Nat), ShsL W a Y → Calls Tryz.prog 13 #[.agg #[.slice a Y.length cap]] W fun r w' => r = .returned (.bool true) ∧ Below W.heap.size W w' := fun e W a cap hW => by
        have := specRawOk_any a cap Y.length Y W hW rfl hnY hmY
        rw [(rawI_back (l := bL T) (by rw [hY, e])).2] at this; exact this
      clear hY hv
      have hsm : ∀ (W : World), Shs W a1 xs → Shs W a3 xs → Calls Tryz.prog 15 #[.agg #[.slice a3 xs.length cap3], .agg #[.slice a1 n cap1]] W fun r w' => r = .returned (.bool true) ∧ Below W.heap.size W w' := fun W h1 h3 => by
        have := smr.specSameRaw_any a3 a1 cap3 cap1 xs.length n xs xs W h3 h1 rfl HX.out (by have := HX.out; omega) (by omega) hms hms
        rw [show decide (xs = xs) = true by simp] at this; exact this
      go_wp2_with fail
      refine (hr2 _ (HT.out.keep hT5)).mono ?_
      rintro r w6 ⟨a6, cap6, rs6, rfl, ho6, hb6⟩
      have hz6 := hb6.size
      try simp only [World.size_alloc, World.size_setCell, World.size_drew] at hz6
      have hb6b : Below w5.heap.size w5 w6 := by ((repeat (first | (with_reducible exact Below.refl _ _) | (with_reducible assumption) | (with_reducible refine Below.alloc ?_ ?_ _) | (with_reducible refine Below.setCell ?_ ?_ _) | (with_reducible refine Below.drew ?_) | (with_reducible refine below_setRow ?_ ?_ _) | (refine Below.trans ?_ (Below.mono (by assumption) ?_)))); all_goals (first | omega | (simp; done) | (simp; omega)))
      have kA_ := box_next hb6b hBA kA; clear kA
      have kA := kA_; clear kA_
      have hBA_ := Nat.lt_of_lt_of_le hBA hb6b.size; clear hBA; have hBA := hBA_; clear hBA_
      have kX_ := box_next hb6b hBX kX; clear kX
      have kX := kX_; clear kX_
      have hBX_ := Nat.lt_of_lt_of_le hBX hb6b.size; clear hBX; have hBX := hBX_; clear hBX_
      clear hb6; have hb6 := hb6b; clear hb6b
      have hT6 : Below w.heap.size w w6 := hT5.trans (hb6.mono hT5.size)
      have HL6 := Lib.hid (HL5.out.keep hb6); have HX6 := Lib.hid (HX5.out.keep hb6); clear HL5 HX5 hr2
      have hcp6 := own_lecapR ho6.outer
      have HY6 := Lib.hid ho6.shsL; clear ho6
      go_wp2_with fail
      refine (hr3 _).mono ?_
      rintro r w7 ⟨a7, cap7, rs7, rfl, ho7, hb7⟩
      have hz7 := hb7.size
      try simp only [World.size_alloc, World.size_setCell, World.size_drew] at hz7
      have hb7b : Below w6.heap.size w6 w7 := by ((repeat (first | (with_reducible exact Below.refl _ _) | (with_reducible assumption) | (with_reducible refine Below.alloc ?_ ?_ _) | (with_reducible refine Below.setCell ?_ ?_ _) | (with_reducible refine Below.drew ?_) | (with_reducible refine below_setRow ?_ ?_ _) | (refine Below.trans ?_ (Below.mono (by assumption) ?_)))); all_goals (first | omega | (simp; done) | (simp; omega)))
      have kA_ := box_next hb7b hBA kA; clear kA
      have kA := kA_; clear kA_
      have hBA_ := Nat.lt_of_lt_of_le hBA hb7b.size; clear hBA; have hBA := hBA_; clear hBA_
      have kX_ := box_next hb7b hBX kX; clear kX
      have kX := kX_; clear kX_
      have hBX_ := Nat.lt_of_lt_of_le hBX hb7b.size; clear hBX; have hBX := hBX_; clear hBX_
      have kG := box_new0 hb7
      have hBG := box_lt0 hb7
      try simp only [World.size_alloc, World.size_setCell, World.size_drew] at kG
      try simp only [World.size_alloc, World.size_setCell, World.size_drew] at hBG
      clear hb7; have hb7 := hb7b; clear hb7b
      have hT7 : Below w.heap.size w w7 := hT6.trans (hb7.mono hT6.size)
      have HL7 := Lib.hid (HL6.out.keep hb7); have HX7 := Lib.hid (HX6.out.keep hb7); have HY7 := Lib.hid (HY6.out.keep hb7); clear HL6 HX6 HY6 hr3 ho7
      cases R
      · skip
        go_wp2_with fail
        refine (hsm _ (HL7.out.keep (by ((repeat (first | (with_reducible exact Below.refl _ _) | (with_reducible assumption) | (with_reducible refine Below.alloc ?_ ?_ _) | (with_reducible refine Below.setCell ?_ ?_ _) | (with_reducible refine Below.drew ?_) | (with_reducible refine below_setRow ?_ ?_ _) | (refine Below.trans ?_ (Below.mono (by assumption) ?_)))); all_goals (first | omega | (simp; done) | (simp; omega))))).shs (HX7.out.keep (by ((repeat (first | (with_reducible exact Below.refl _ _) | (with_reducible assumption) | (with_reducible refine Below.alloc ?_ ?_ _) | (with_reducible refine Below.setCell ?_ ?_ _) | (with_reducible refine Below.drew ?_) | (with_reducible refine below_setRow ?_ ?_ _) | (refine Below.trans ?_ (Below.mono (by assumption) ?_)))); all_goals (first | omega | (simp; done) | (simp; omega)))))).mono ?_
        rintro r w8 ⟨rfl, hb8⟩
        have hz8 := hb8.size
        try simp only [World.size_alloc, World.size_setCell, World.size_drew] at hz8
        have hb8b : Below w7.heap.size w7 w8 := by ((repeat (first | (with_reducible exact Below.refl _ _) | (with_reducible assumption) | (with_reducible refine Below.alloc ?_ ?_ _) | (with_reducible refine Below.setCell ?_ ?_ _) | (with_reducible refine Below.drew ?_) | (with_reducible refine below_setRow ?_ ?_ _) | (refine Below.trans ?_ (Below.mono (by assumption) ?_)))); all_goals (first | omega | (simp; done) | (simp; omega)))
        have kA_ := box_next hb8b hBA kA; clear kA
        have kA := kA_; clear kA_
        have hBA_ := Nat.lt_of_lt_of_le hBA hb8b.size; clear hBA; have hBA := hBA_; clear hBA_
        have kX_ := box_next hb8b hBX kX; clear kX
        have kX := kX_; clear kX_
        have hBX_ := Nat.lt_of_lt_of_le hBX hb8b.size; clear hBX; have hBX := hBX_; clear hBX_
        have kG_ := box_next hb8b hBG kG; clear kG
        have kG := kG_; clear kG_
        have hBG_ := Nat.lt_of_lt_of_le hBG hb8b.size; clear hBG; have hBG := hBG_; clear hBG_
        have kZ := box_new0 hb8
        have hBZ := box_lt0 hb8
        try simp only [World.size_alloc, World.size_setCell, World.size_drew] at kZ
        try simp only [World.size_alloc, World.size_setCell, World.size_drew] at hBZ
        clear hb8; have hb8 := hb8b; clear hb8b
        have hT8 : Below w.heap.size w w8 := hT7.trans (hb8.mono hT7.size)
        go_wp2_with fail
        go_ret
        exact ⟨rfl, hT8⟩
      · have hi3 := hi2 rfl
        have hk3 := hk2 rfl
        clear hi2 hk2
        go_wp2_with fail
        refine (hsm _ (HL7.out.keep (by ((repeat (first | (with_reducible exact Below.refl _ _) | (with_reducible assumption) | (with_reducible refine Below.alloc ?_ ?_ _) | (with_reducible refine Below.setCell ?_ ?_ _) | (with_reducible refine Below.drew ?_) | (with_reducible refine below_setRow ?_ ?_ _) | (refine Below.trans ?_ (Below.mono (by assumption) ?_)))); all_goals (first | omega | (simp; done) | (simp; omega))))).shs (HX7.out.keep (by ((repeat (first | (with_reducible exact Below.refl _ _) | (with_reducible assumption) | (with_reducible refine Below.alloc ?_ ?_ _) | (with_reducible refine Below.setCell ?_ ?_ _) | (with_reducible refine Below.drew ?_) | (with_reducible refine below_setRow ?_ ?_ _) | (refine Below.trans ?_ (Below.mono (by assumption) ?_)))); all_goals (first | omega | (simp; done) | (simp; omega)))))).mono ?_
        rintro r w8 ⟨rfl, hb8⟩
        have hz8 := hb8.size
        try simp only [World.size_alloc, World.size_setCell, World.size_drew] at hz8
        have hb8b : Below w7.heap.size w7 w8 := by ((repeat (first | (with_reducible exact Below.refl _ _) | (with_reducible assumption) | (with_reducible refine Below.alloc ?_ ?_ _) | (with_reducible refine Below.setCell ?_ ?_ _) | (with_reducible refine Below.drew ?_) | (with_reducible refine below_setRow ?_ ?_ _) | (refine Below.trans ?_ (Below.mono (by assumption) ?_)))); all_goals (first | omega | (simp; done) | (simp; omega)))
        have kA_ := box_next hb8b hBA kA; clear kA
        have kA := kA_; clear kA_
        have hBA_ := Nat.lt_of_lt_of_le hBA hb8b.size; clear hBA; have hBA := hBA_; clear hBA_
        have kX_ := box_next hb8b hBX kX; clear kX
        have kX := kX_; clear kX_
        have hBX_ := Nat.lt_of_lt_of_le hBX hb8b.size; clear hBX; have hBX := hBX_; clear hBX_
        have kG_ := box_next hb8b hBG kG; clear kG
        have kG := kG_; clear kG_
        have hBG_ := Nat.lt_of_lt_of_le hBG hb8b.size; clear hBG; have hBG := hBG_; clear hBG_
        have kZ := box_new0 hb8
        have hBZ := box_lt0 hb8
        try simp only [World.size_alloc, World.size_setCell, World.size_drew] at kZ
        try simp only [World.size_alloc, World.size_setCell, World.size_drew] at hBZ
        clear hb8; have hb8 := hb8b; clear hb8b
        have hT8 : Below w.heap.size w w8 := hT7.trans (hb8.mono hT7.size)
        have HY8 := Lib.hid (HY7.out.keep hb8); clear HY7 HX7 HL7
        go_wp2_with fail
        refine (hi3 _ _ _ (HY8.out.keep (by ((repeat (first | (with_reducible exact Below.refl _ _) | (with_reducible assumption) | (with_reducible refine Below.alloc ?_ ?_ _) | (with_reducible refine Below.setCell ?_ ?_ _) | (with_reducible refine Below.drew ?_) | (with_reducible refine below_setRow ?_ ?_ _) | (refine Below.trans ?_ (Below.mono (by assumption) ?_)))); all_goals (first | omega | (simp; done) | (simp; omega))))) (HT.out.keep hT8).num.tab hcp6).mono ?_
        rintro r w9 ⟨rfl, hb9⟩
        have hz9 := hb9.size
        try simp only [World.size_alloc, World.size_setCell, World.size_drew] at hz9
        have hb9b : Below w8.heap.size w8 w9 := by ((repeat (first | (with_reducible exact Below.refl _ _) | (with_reducible assumption) | (with_reducible refine Below.alloc ?_ ?_ _) | (with_reducible refine Below.setCell ?_ ?_ _) | (with_reducible refine Below.drew ?_) | (with_reducible refine below_setRow ?_ ?_ _) | (refine Below.trans ?_ (Below.mono (by assumption) ?_)))); all_goals (first | omega | (simp; done) | (simp; omega)))
        have kA_ := box_next hb9b hBA kA; clear kA
        have kA := kA_; clear kA_
        have hBA_ := Nat.lt_of_lt_of_le hBA hb9b.size; clear hBA; have hBA := hBA_; clear hBA_
        have kX_ := box_next hb9b hBX kX; clear kX
        have kX := kX_; clear kX_
        have hBX_ := Nat.lt_of_lt_of_le hBX hb9b.size; clear hBX; have hBX := hBX_; clear hBX_
        have kG_ := box_next hb9b hBG kG; clear kG
        have kG := kG_; clear kG_
        have hBG_ := Nat.lt_of_lt_of_le hBG hb9b.size; clear hBG; have hBG := hBG_; clear hBG_
        clear hb9; have hb9 := hb9b; clear hb9b
        have hT9 : Below w.heap.size w w9 := hT8.trans (hb9.mono hT8.size)
        have HY9 := Lib.hid (HY8.out.keep hb9); clear HY8
        go_wp2_with fail
        refine (hk3 _ _ _ (HY9.out.keep (by ((repeat (first | (with_reducible exact Below.refl _ _) | (with_reducible assumption) | (with_reducible refine Below.alloc ?_ ?_ _) | (with_reducible refine Below.setCell ?_ ?_ _) | (with_reducible refine Below.drew ?_) | (with_reducible refine below_setRow ?_ ?_ _) | (refine Below.trans ?_ (Below.mono (by assumption) ?_)))); all_goals (first | omega | (simp; done) | (simp; omega)))))).mono ?_
        rintro r w10 ⟨rfl, hb10⟩
        have hz10 := hb10.size
        try simp only [World.size_alloc, World.size_setCell, World.size_drew] at hz10
        have hb10b : Below w9.heap.size w9 w10 := by ((repeat (first | (with_reducible exact Below.refl _ _) | (with_reducible assumption) | (with_reducible refine Below.alloc ?_ ?_ _) | (with_reducible refine Below.setCell ?_ ?_ _) | (with_reducible refine Below.drew ?_) | (with_reducible refine below_setRow ?_ ?_ _) | (refine Below.trans ?_ (Below.mono (by assumption) ?_)))); all_goals (first | omega | (simp; done) | (simp; omega)))
        have kA_ := box_next hb10b hBA kA; clear kA
        have kA := kA_; clear kA_
        have hBA_ := Nat.lt_of_lt_of_le hBA hb10b.size; clear hBA; have hBA := hBA_; clear hBA_
        have kX_ := box_next hb10b hBX kX; clear kX
        have kX := kX_; clear kX_
        have hBX_ := Nat.lt_of_lt_of_le hBX hb10b.size; clear hBX; have hBX := hBX_; clear hBX_
        have kG_ := box_next hb10b hBG kG; clear kG
        have kG := kG_; clear kG_
        have hBG_ := Nat.lt_of_lt_of_le hBG hb10b.size; clear hBG; have hBG := hBG_; clear hBG_
        clear hb10; have hb10 := hb10b; clear hb10b
        have hT10 : Below w.heap.size w w10 := hT9.trans (hb10.mono hT9.size)
        go_wp2_with fail
        go_ret
        exact ⟨rfl, hT10⟩
set_option maxRecDepth 100000 in
theorem lifted (os : Os) (started : os.Started) (H : Type) (enc : TypeId × Value → H) :
    ReturnsInHanded {} Tryz.checked os 4 .any (fun w args => (Rows.fnRawTextSpec.pre enc Tryz.prog Tryz.f4 [] false w args ∧ laidMetH Tryz.prog Rows.fnRawTextRow.laid w) ∧ sizedMet enc Tryz.prog Tryz.f4 (OpenSpec.ofChange Rows.fnRawTextSpec) false w args)
      (Rows.fnRawTextSpec.post enc Tryz.prog Tryz.f4 false true false false) := by
  refine wrap_laid (C := Tryz.checked) (X := fun w => laidMetH Tryz.prog Rows.fnRawTextRow.laid w) (fun _ _ hh h => h.of_heap hh) own started (by kernel_rfl) Tryz.func4
    (ChangeSpec.witness_shaped (enc := enc) (C := Tryz.checked) (os := os) (X := fun w _ => laidMetH Tryz.prog Rows.fnRawTextRow.laid w) false (World.laidAll Tryz.prog os Rows.fnRawTextRow.laid) #[.slice none 0 0] 8 (World.laidAll_os _ _ _) (World.shaped_of_ZipB (by kernel_rfl) (by kernel_rfl)) (by kernel_rfl) (by kernel_rfl) (by kernel_rfl) (by rw [MakeChecks.laidMetH_plain _ _ _ (by kernel_rfl)]; exact laidMet_laidAll _ (by kernel_rfl) (by kernel_rfl))) ?_
  intro W base args ds gs before hval0 hW _ _ hL hsh
  have hval : ∀ (j : Nat) t v, Tryz.f4.params[j]? = some t → args[j]? = some v → Value.okWide Tryz.prog W .any base t v := hval0
  have hW' := hW
  obtain ⟨p, q, hA0, hV, rfl, hfz, hnd⟩ := hW
  have hA : DataW.TrodAll enc Tryz.prog W 0 (fun _ => true) true Tryz.f4.params.toList args.toList ds p := hA0
  rw [Tryz.params4] at hA hval
  obtain ⟨v0, vs0, d0, ds0, p0, q0, hargs, rfl, rfl, h0, r0⟩ := trodAll_cons hA
  obtain ⟨rfl, rfl, rfl⟩ := trodAll_nil r0
  obtain rfl : args = #[v0] := by cases args; simp_all
  obtain ⟨rfl, rfl⟩ := trodVars_none hV
  have k0 := h0
  have lt0 : ∀ x ∈ p0, x.block < W.heap.size := by obtain ⟨m, hm⟩ := k0; exact DataW.trod_lt m _ _ _ hm
  obtain ⟨x0, e0, w0⟩ := openBytes (hval 0 30 v0 rfl rfl) h0
  subst e0
  clear hA0 hval0
  rw [MakeChecks.laidMetH_plain _ _ _ (by kernel_rfl)] at hL
  refine (walk W x0 w0 (of_laid hL hsh)).mono fun e W' ⟨he, bel⟩ => ?_
  subst he
  exact ⟨_, rfl, _, _, _, [], _, [], hW', trodAll_mk1 (shut_bool Tryz.underlying4 _), (trodAll_cons_mk (Below.trod laidOut (by kernel_rfl) (of_decide_eq_true (by kernel_rfl)) k0 bel lt0) trodAll_mk0), rfl, bel.frame _, fun h => by cases h⟩
theorem over : Rows.FnRawTextSaid :=
  OpenClaim.holds_of_wide 4 Tryz.f4 rfl rfl rfl rfl rfl rfl rfl ⟨rfl, rfl, rfl, rfl, rfl⟩ rfl rfl rfl rfl rfl (by kernel_rfl) Tryz.func4 (by kernel_rfl)
    (of_decide_eq_true (by kernel_rfl)) (by unfold Func.isWrapper; first | (rw [if_pos (by decide +kernel)]; kernel_rfl) | (rw [if_neg (by decide +kernel)]; exact ⟨rfl, rfl⟩))
    (fun os started H enc _ => lifted os started H enc)
theorem proved : Rows.FnRawTextCardSaid :=
  Claim7.holds_tied_plain_at .later [] [.data, .data, .data, .data, .sentinel, .sentinel, .pinned] true (true, "821e79c5559f6c964b8c42a6f5f1d274b0ba5f85ff794589a9ee90356c6e6ed0") true
    over (fun _ h => by cases h) (by kernel_rfl) (fun _ h => by cases h) fnRawText_row_tie rfl ⟨rfl, rfl⟩ (by kernel_rfl) rfl
    (fun f fn hf hfn => by
      obtain rfl : f = 4 := Option.some.inj ((show Tryz.prog.funcNamed "loop.example/g00498/laws.FnRawText" = some 4 by kernel_rfl).symm.trans hf) |>.symm
      obtain rfl : fn = Tryz.f4 := (Option.some.inj (Tryz.func4.symm.trans hfn)).symm
      exact ⟨by kernel_rfl, fun j t ht => by
        rw [Tryz.params4] at ht
        have hm : t ∈ [30] := by simpa using Array.mem_of_getElem? ht
        have hall : ([30].all fun u => !Tryz.prog.wantsStandIn u) = true := by kernel_rfl
        exact (show Tryz.prog.wantsStandIn t = false by simpa using List.all_eq_true.1 hall t hm)⟩)
    (by kernel_rfl)
end Go.Proofs.YtbjbgneiglopmaaGreatDoor.fnRawText

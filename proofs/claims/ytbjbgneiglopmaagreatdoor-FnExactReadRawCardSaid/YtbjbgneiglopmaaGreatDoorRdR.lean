/- FnExactReadRaw: for every text the program's ReadRaw returns what the reference's returns, in memory of its own. The library's tables read as the program's text lays them (the card ties that). -/
import Derived.Test.YtbjbgneiglopmaaGreatDoorTie
import Derived.Test.YtbjbgneiglopmaaGreatDoorCards
import Derived.LaidMore
import Derived.Lay
import Derived.OpenShut
import Derived.Stop.Joined
import Derived.Stop.LaidErr
import Derived.Shelf.Vars
import Derived.SevenTiedAt
import Derived.Test.YtbjbgneiglopmaaGreatDoorRdR1
import Derived.Test.YtbjbgneiglopmaaGreatDoorRdR2
import Derived.Test.YtbjbgneiglopmaaGreatDoorRdR3
import Derived.Test.YtbjbgneiglopmaaGreatDoorRdR4
import Derived.Test.YtbjbgneiglopmaaGreatDoorRdR5
import Derived.Test.YtbjbgneiglopmaaGreatDoorRdR6
namespace Go.Proofs.YtbjbgneiglopmaaGreatDoor.fnExactReadRaw
set_option linter.unusedSimpArgs false
set_option linter.unusedVariables false
open Go.ChangeShapes Go.WideShapes Go.ChangeAt Go.RowKit Go.BigFrame
theorem tTab : (Tryz.prog.globals[5]?).map (·.type) = some 144 := by kernel_rfl
theorem data_tab : (Rows.laid_internal_strconv_uint64pow10 : DataW Unit) = Lib.tabData .u64 Lib.pow10Tab := by kernel_rfl
theorem tab_of {W : World} {ps : List MemPlace} (h : DataW.LaidVars Tryz.prog W Rows.fnExactReadRawRow.laid ps) : TabW W := by
  obtain ⟨g0, t0, cs0, f0, p0, q0, _, _, _, _, ⟨g1, t1, cs1, f1, p1, q1, _, _, _, _, ⟨g2, t2, cs2, f2, p2, q2, hg2, ht2, hv2, hd2, _, _⟩, _⟩, _⟩ := h
  obtain rfl := Option.some.inj (gTab.symm.trans hg2)
  obtain rfl := Option.some.inj (tTab.symm.trans ht2)
  show W.var? Tryz.prog "internal/strconv.uint64pow10" = _
  rw [data_tab] at hd2
  rw [hv2, ← Lib.cells_of_tab (t := 144) (e := 62) Tryz.underlying144 Tryz.underlying62 (by kernel_rfl) (by kernel_rfl) hd2]
theorem starE : "*" ++ "errors.errorString" = "*errors.errorString" := by decide
theorem row_err (u : TypeId) (h : Tryz.prog.typeName? 3 u = some "*errors.errorString") : u = 140 :=
  typeName_ptr_named (nm := "errors.errorString") (by rw [starE]; kernel_rfl) (by kernel_rfl) (by decide) u (by rw [starE]; exact h)
theorem of_laid {W : World} (h : laidMet Tryz.prog Rows.fnExactReadRawRow.laid W) (hsh : W.ShapedOpen Tryz.prog) : TxtW W := by
  have h3 := h.tail.tail.tail.tail
  have hr : ∃ (a : Addr) (s : ByteArray), W.var? Tryz.prog "strconv.ErrRange" = some #[.iface 140 (.pointer (some a))] ∧ W.cell? a = some (.string s) ∧ s.data.toList = _ ∧ s.size ≤ maxLen :=
    laid_sentinel h3 gRng (by kernel_rfl) Tryz.underlying67 row_err Tryz.underlying140 Tryz.underlying142 rfl rfl Tryz.underlying9 (by kernel_rfl) (by kernel_rfl)
  have hs : ∃ (a : Addr) (s : ByteArray), W.var? Tryz.prog "strconv.ErrSyntax" = some #[.iface 140 (.pointer (some a))] ∧ W.cell? a = some (.string s) ∧ s.data.toList = _ ∧ s.size ≤ maxLen :=
    laid_sentinel h3.tail gSyn (by kernel_rfl) Tryz.underlying67 row_err Tryz.underlying140 Tryz.underlying142 rfl rfl Tryz.underlying9 (by kernel_rfl) (by kernel_rfl)
  obtain ⟨ar, _, hr, _⟩ := hr
  obtain ⟨asy, _, hs, _⟩ := hs
  obtain ⟨ps, hL, _⟩ := h
  exact ⟨⟨tab_of hL, ⟨_, _, hs⟩, ⟨_, _, hr⟩⟩, cell_of_shapedOpen_int (zero := #[.int .i64 0]) (t := 3) hsh (of_decide_eq_true (by kernel_rfl)) (by kernel_rfl) rfl (by kernel_rfl) (by kernel_rfl) Tryz.underlying3⟩
theorem box_chgR {w w' : World} {B lo hi : Nat} {cs : Array Value} (hc : Chg lo hi w w') (hB : B < w.heap.size) (hd : B < lo ∨ hi ≤ B) (k : ∀ i, w.cell? ⟨B, i, none⟩ = cs[i]?) : ∀ i, w'.cell? ⟨B, i, none⟩ = cs[i]? :=
  fun i => (World.cell?_of_block (a := ⟨B, i, none⟩) (hc.block B hB hd)).trans (k i)
theorem rawMark_N (a : Option Addr) (cap n : Nat) (rs : List ShR) (xs : List Shp) (lo hi N : Nat) (w : World) (ho : OwnSh w lo hi a n rs xs) (hn : n ≤ 1048576) (hm : fldSum xs ≤ 1048576) (hN : kS 1 xs n = N) :
    Calls Tryz.prog 8 #[.agg #[.slice a n cap], .int .i64 1] w fun r w' => r = .returned (.int .i64 (N : Int)) ∧ (∃ rs', OwnSh w' lo hi a n rs' (marksS 1 xs)) ∧ Chg lo hi w w' := by
  subst hN
  refine (markRaw_any a cap n rs xs 1 1 rfl lo hi w ho hn hm (by omega) (by omega)).mono ?_
  rintro r w' ⟨hr, ⟨rs', h1, _⟩, hc⟩
  exact ⟨hr, ⟨rs', h1⟩, hc.toChg fun b hb => ho.blk hb⟩
theorem rawHeld_N (a : Option Addr) (cap n : Nat) (xs : List Shp) (N : Nat) (w : World) (h : Shs w a (marksS 1 xs)) (hx : xs.length = n) (hn : n ≤ 1048576) (hm : fldSum xs ≤ 1048576) (hN : kS 1 xs n = N) :
    Calls Tryz.prog 9 #[.agg #[.slice a n cap], .int .i64 1] w fun r w' => r = .returned (.int .i64 (N : Int)) ∧ Below w.heap.size w w' := by
  subst hN
  exact heldRaw_any a cap n xs 1 1 rfl w h hx hn hm (by omega) (by omega)
theorem rawI_sum (l : List UInt8) : fldSum (rawI l).1 ≤ 1048576 := by
  rw [rawI]; split
  · simp [fldSum]
  · split
    · exact (rawsI_size l).2
    · simp [fldSum]
set_option maxRecDepth 100000 in
set_option maxHeartbeats 4000000 in
theorem walk (w : World) (s : ByteArray) (hx : s.size ≤ maxLen) (ht : TxtW w) :
    Calls Tryz.prog 3 #[.string s] w fun r w' => r = .returned (.bool true) ∧ Below w.heap.size w w' := by
  by_cases hbig : 1048576 < s.size
  · have hb : (1048576 : Int) < s.size := by omega
    go_enter Tryz.func3, Tryz.ntmps3
    go_wp2_with fail
    go_ret
    exact ⟨rfl, Below.refl _ _⟩
  · have hs : s.size ≤ 1048576 := by omega
    have hb : ¬ (1048576 : Int) < s.size := by omega
    obtain ⟨⟨ys, BV⟩, hR⟩ : ∃ R, rawI (bL s) = R := ⟨_, rfl⟩
    have hv : RawVal ys := rawOk_val (by have := rawI_val (l := bL s); rw [hR] at this; exact this)
    have hny : ys.length ≤ 1048576 := by have := hv.n; omega
    have hmy : fldSum ys ≤ 1048576 := by have := rawI_sum (bL s); rw [hR] at this; exact this
    have hs1 : ∀ W, Calls Tryz.prog 5 #[.string s] W (FreshRd W ys.length ys BV) := fun W => by
      have := specReadRaw_any s W hs; rw [← raw_same, hR] at this; exact this
    have hs2 : ∀ W, TxtW W → Calls Tryz.prog 6 #[.string s] W (FreshRd W ys.length ys BV) := fun W hW => by
      have := implReadRaw_any s W hW hs; rw [hR] at this; exact this
    obtain ⟨N, hN⟩ : ∃ N, kS 1 ys ys.length = N := ⟨_, rfl⟩
    have HN := Lib.hid hN; clear hN
    have HT := Lib.hid ht; clear ht hR hbig hv
    go_enter Tryz.func3, Tryz.ntmps3
    go_wp2_with fail
    refine (hs1 _).mono ?_
    rintro r w1 ⟨a1, cap1, rs1, rfl, ho1, hb1⟩
    have hz1 := hb1.size
    try simp only [World.size_alloc, World.size_setCell, World.size_drew] at hz1
    have hb1b : Below w.heap.size w w1 := by ((repeat (first | (with_reducible exact Below.refl _ _) | (with_reducible assumption) | (with_reducible refine Below.alloc ?_ ?_ _) | (with_reducible refine Below.setCell ?_ ?_ _) | (with_reducible refine Below.drew ?_) | (with_reducible refine below_setRow ?_ ?_ _) | (refine Below.trans ?_ (Below.mono (by assumption) ?_)))); all_goals (first | omega | (simp; done) | (simp; omega)))
    clear hb1; have hb1 := hb1b; clear hb1b
    have hT1 : Below w.heap.size w w1 := hb1
    have hoq1 := ho1; try simp only [World.size_alloc, World.size_setCell, World.size_drew] at hoq1
    have R1 := Lib.hid (OwnSh.of_own hoq1 (by have := hb1.size; omega) (by decide)); clear ho1 hoq1
    go_wp2_with fail
    refine (hs2 _ (HT.out.keep (hT1.alloc hT1.size _))).mono ?_
    rintro r w2 ⟨a2, cap2, rs2, rfl, ho2, hb2⟩
    have hz2 := hb2.size
    try simp only [World.size_alloc, World.size_setCell, World.size_drew] at hz2
    have hb2b : Below w1.heap.size w1 w2 := by ((repeat (first | (with_reducible exact Below.refl _ _) | (with_reducible assumption) | (with_reducible refine Below.alloc ?_ ?_ _) | (with_reducible refine Below.setCell ?_ ?_ _) | (with_reducible refine Below.drew ?_) | (with_reducible refine below_setRow ?_ ?_ _) | (refine Below.trans ?_ (Below.mono (by assumption) ?_)))); all_goals (first | omega | (simp; done) | (simp; omega)))
    have kA := box_new0 hb2
    have hBA := box_lt0 hb2
    try simp only [World.size_alloc, World.size_setCell, World.size_drew] at kA
    try simp only [World.size_alloc, World.size_setCell, World.size_drew] at hBA
    clear hb2; have hb2 := hb2b; clear hb2b
    have hT2 : Below w.heap.size w w2 := hT1.trans (hb2.mono hT1.size)
    have R1_ := Lib.hid (R1.out.keep hb2); clear R1; have R1 := R1_; clear R1_
    have hoq2 := ho2; try simp only [World.size_alloc, World.size_setCell, World.size_drew] at hoq2
    have R2 := Lib.hid (OwnSh.of_own hoq2 (by have := hb2.size; omega) (by decide)); clear ho2 hoq2
    go_wp2_with fail
    refine (eqRaw_same _ _ _ _ _ ys _ ((R2.out.keep (show Below w2.heap.size w2 _ from by ((repeat (first | (with_reducible exact Below.refl _ _) | (with_reducible assumption) | (with_reducible refine Below.alloc ?_ ?_ _) | (with_reducible refine Below.setCell ?_ ?_ _) | (with_reducible refine Below.drew ?_) | (with_reducible refine below_setRow ?_ ?_ _) | (refine Below.trans ?_ (Below.mono (by assumption) ?_)))); all_goals (first | omega | (simp; done) | (simp; omega))))).shs) ((R1.out.keep (show Below w2.heap.size w2 _ from by ((repeat (first | (with_reducible exact Below.refl _ _) | (with_reducible assumption) | (with_reducible refine Below.alloc ?_ ?_ _) | (with_reducible refine Below.setCell ?_ ?_ _) | (with_reducible refine Below.drew ?_) | (with_reducible refine below_setRow ?_ ?_ _) | (refine Below.trans ?_ (Below.mono (by assumption) ?_)))); all_goals (first | omega | (simp; done) | (simp; omega))))).shs) rfl hny hmy).mono ?_
    rintro r w3 ⟨rfl, hb3⟩
    have hz3 := hb3.size
    try simp only [World.size_alloc, World.size_setCell, World.size_drew] at hz3
    have hb3b : Below w2.heap.size w2 w3 := by ((repeat (first | (with_reducible exact Below.refl _ _) | (with_reducible assumption) | (with_reducible refine Below.alloc ?_ ?_ _) | (with_reducible refine Below.setCell ?_ ?_ _) | (with_reducible refine Below.drew ?_) | (with_reducible refine below_setRow ?_ ?_ _) | (refine Below.trans ?_ (Below.mono (by assumption) ?_)))); all_goals (first | omega | (simp; done) | (simp; omega)))
    have kA_ := box_next hb3b hBA kA; clear kA
    have kA := kA_; clear kA_
    have hBA_ := Nat.lt_of_lt_of_le hBA hb3b.size; clear hBA; have hBA := hBA_; clear hBA_
    have kG := box_new0 hb3
    have hBG := box_lt0 hb3
    try simp only [World.size_alloc, World.size_setCell, World.size_drew] at kG
    try simp only [World.size_alloc, World.size_setCell, World.size_drew] at hBG
    clear hb3; have hb3 := hb3b; clear hb3b
    have hT3 : Below w.heap.size w w3 := hT2.trans (hb3.mono hT2.size)
    have R1_ := Lib.hid (R1.out.keep hb3); clear R1; have R1 := R1_; clear R1_
    have R2_ := Lib.hid (R2.out.keep hb3); clear R2; have R2 := R2_; clear R2_
    go_wp2_with fail
    refine (rawMark_N a2 cap2 _ rs2 ys _ _ N _ (R2.out.keep (show Below w3.heap.size w3 _ from by ((repeat (first | (with_reducible exact Below.refl _ _) | (with_reducible assumption) | (with_reducible refine Below.alloc ?_ ?_ _) | (with_reducible refine Below.setCell ?_ ?_ _) | (with_reducible refine Below.drew ?_) | (with_reducible refine below_setRow ?_ ?_ _) | (refine Below.trans ?_ (Below.mono (by assumption) ?_)))); all_goals (first | omega | (simp; done) | (simp; omega))))) hny hmy HN.out).mono ?_
    rintro r w4 ⟨rfl, ⟨rs2', h4'⟩, hc4⟩
    have hz4 := hc4.size
    have hT4 : Below w.heap.size w w4 := hT3.trans ((hc4.below (by omega)).mono (by omega))
    have kA_ := box_chgR hc4 hBA (by omega) kA; clear kA; have kA := kA_; clear kA_; have hBA_ := Nat.lt_of_lt_of_le hBA hz4; clear hBA; have hBA := hBA_; clear hBA_
    have kG_ := box_chgR hc4 hBG (by omega) kG; clear kG; have kG := kG_; clear kG_; have hBG_ := Nat.lt_of_lt_of_le hBG hz4; clear hBG; have hBG := hBG_; clear hBG_
    have R1_ := Lib.hid (R1.out.chg hc4 (by omega)); clear R1; have R1 := R1_; clear R1_
    clear R2; have R2 := Lib.hid h4'; clear h4'
    go_wp2_with fail
    refine (rawHeld_N a2 cap2 _ ys N _ ((R2.out.keep (show Below w4.heap.size w4 _ from by ((repeat (first | (with_reducible exact Below.refl _ _) | (with_reducible assumption) | (with_reducible refine Below.alloc ?_ ?_ _) | (with_reducible refine Below.setCell ?_ ?_ _) | (with_reducible refine Below.drew ?_) | (with_reducible refine below_setRow ?_ ?_ _) | (refine Below.trans ?_ (Below.mono (by assumption) ?_)))); all_goals (first | omega | (simp; done) | (simp; omega))))).shs) rfl hny hmy HN.out).mono ?_
    rintro r w5 ⟨rfl, hb5⟩
    have hz5 := hb5.size
    try simp only [World.size_alloc, World.size_setCell, World.size_drew] at hz5
    have hb5b : Below w4.heap.size w4 w5 := by ((repeat (first | (with_reducible exact Below.refl _ _) | (with_reducible assumption) | (with_reducible refine Below.alloc ?_ ?_ _) | (with_reducible refine Below.setCell ?_ ?_ _) | (with_reducible refine Below.drew ?_) | (with_reducible refine below_setRow ?_ ?_ _) | (refine Below.trans ?_ (Below.mono (by assumption) ?_)))); all_goals (first | omega | (simp; done) | (simp; omega)))
    have kA_ := box_next hb5b hBA kA; clear kA
    have kA := kA_; clear kA_
    have hBA_ := Nat.lt_of_lt_of_le hBA hb5b.size; clear hBA; have hBA := hBA_; clear hBA_
    have kG_ := box_next hb5b hBG kG; clear kG
    have kG := kG_; clear kG_
    have hBG_ := Nat.lt_of_lt_of_le hBG hb5b.size; clear hBG; have hBG := hBG_; clear hBG_
    clear hb5; have hb5 := hb5b; clear hb5b
    have hT5 : Below w.heap.size w w5 := hT4.trans (hb5.mono hT4.size)
    have R1_ := Lib.hid (R1.out.keep hb5); clear R1; have R1 := R1_; clear R1_
    have R2_ := Lib.hid (R2.out.keep hb5); clear R2; have R2 := R2_; clear R2_
    go_wp2_with fail
    refine (hs2 _ (HT.out.keep hT5)).mono ?_
    rintro r w6 ⟨a6, cap6, rs6, rfl, ho6, hb6⟩
    have hz6 := hb6.size
    try simp only [World.size_alloc, World.size_setCell, World.size_drew] at hz6
    have hb6b : Below w5.heap.size w5 w6 := by ((repeat (first | (with_reducible exact Below.refl _ _) | (with_reducible assumption) | (with_reducible refine Below.alloc ?_ ?_ _) | (with_reducible refine Below.setCell ?_ ?_ _) | (with_reducible refine Below.drew ?_) | (with_reducible refine below_setRow ?_ ?_ _) | (refine Below.trans ?_ (Below.mono (by assumption) ?_)))); all_goals (first | omega | (simp; done) | (simp; omega)))
    have kA_ := box_next hb6b hBA kA; clear kA
    have kA := kA_; clear kA_
    have hBA_ := Nat.lt_of_lt_of_le hBA hb6b.size; clear hBA; have hBA := hBA_; clear hBA_
    have kG_ := box_next hb6b hBG kG; clear kG
    have kG := kG_; clear kG_
    have hBG_ := Nat.lt_of_lt_of_le hBG hb6b.size; clear hBG; have hBG := hBG_; clear hBG_
    clear hb6; have hb6 := hb6b; clear hb6b
    have hT6 : Below w.heap.size w w6 := hT5.trans (hb6.mono hT5.size)
    have R1_ := Lib.hid (R1.out.keep hb6); clear R1; have R1 := R1_; clear R1_
    have R2_ := Lib.hid (R2.out.keep hb6); clear R2; have R2 := R2_; clear R2_
    have hoq6 := ho6; try simp only [World.size_alloc, World.size_setCell, World.size_drew] at hoq6
    have R6 := Lib.hid (OwnSh.of_own hoq6 (by have := hb6.size; omega) (by decide)); clear ho6 hoq6
    go_wp2_with fail
    refine (eqRaw_same _ _ _ _ _ ys _ ((R6.out.keep (show Below w6.heap.size w6 _ from by ((repeat (first | (with_reducible exact Below.refl _ _) | (with_reducible assumption) | (with_reducible refine Below.alloc ?_ ?_ _) | (with_reducible refine Below.setCell ?_ ?_ _) | (with_reducible refine Below.drew ?_) | (with_reducible refine below_setRow ?_ ?_ _) | (refine Below.trans ?_ (Below.mono (by assumption) ?_)))); all_goals (first | omega | (simp; done) | (simp; omega))))).shs) ((R1.out.keep (show Below w6.heap.size w6 _ from by ((repeat (first | (with_reducible exact Below.refl _ _) | (with_reducible assumption) | (with_reducible refine Below.alloc ?_ ?_ _) | (with_reducible refine Below.setCell ?_ ?_ _) | (with_reducible refine Below.drew ?_) | (with_reducible refine below_setRow ?_ ?_ _) | (refine Below.trans ?_ (Below.mono (by assumption) ?_)))); all_goals (first | omega | (simp; done) | (simp; omega))))).shs) rfl hny hmy).mono ?_
    rintro r w7 ⟨rfl, hb7⟩
    have hz7 := hb7.size
    try simp only [World.size_alloc, World.size_setCell, World.size_drew] at hz7
    have hb7b : Below w6.heap.size w6 w7 := by ((repeat (first | (with_reducible exact Below.refl _ _) | (with_reducible assumption) | (with_reducible refine Below.alloc ?_ ?_ _) | (with_reducible refine Below.setCell ?_ ?_ _) | (with_reducible refine Below.drew ?_) | (with_reducible refine below_setRow ?_ ?_ _) | (refine Below.trans ?_ (Below.mono (by assumption) ?_)))); all_goals (first | omega | (simp; done) | (simp; omega)))
    have kA_ := box_next hb7b hBA kA; clear kA
    have kA := kA_; clear kA_
    have hBA_ := Nat.lt_of_lt_of_le hBA hb7b.size; clear hBA; have hBA := hBA_; clear hBA_
    have kG_ := box_next hb7b hBG kG; clear kG
    have kG := kG_; clear kG_
    have hBG_ := Nat.lt_of_lt_of_le hBG hb7b.size; clear hBG; have hBG := hBG_; clear hBG_
    have kH := box_new0 hb7
    have hBH := box_lt0 hb7
    try simp only [World.size_alloc, World.size_setCell, World.size_drew] at kH
    try simp only [World.size_alloc, World.size_setCell, World.size_drew] at hBH
    clear hb7; have hb7 := hb7b; clear hb7b
    have hT7 : Below w.heap.size w w7 := hT6.trans (hb7.mono hT6.size)
    have R2_ := Lib.hid (R2.out.keep hb7); clear R2; have R2 := R2_; clear R2_
    go_wp2_with fail
    refine (rawHeld_N a2 cap2 _ ys N _ ((R2.out.keep (show Below w7.heap.size w7 _ from by ((repeat (first | (with_reducible exact Below.refl _ _) | (with_reducible assumption) | (with_reducible refine Below.alloc ?_ ?_ _) | (with_reducible refine Below.setCell ?_ ?_ _) | (with_reducible refine Below.drew ?_) | (with_reducible refine below_setRow ?_ ?_ _) | (refine Below.trans ?_ (Below.mono (by assumption) ?_)))); all_goals (first | omega | (simp; done) | (simp; omega))))).shs) rfl hny hmy HN.out).mono ?_
    rintro r w8 ⟨rfl, hb8⟩
    have hz8 := hb8.size
    try simp only [World.size_alloc, World.size_setCell, World.size_drew] at hz8
    have hb8b : Below w7.heap.size w7 w8 := by ((repeat (first | (with_reducible exact Below.refl _ _) | (with_reducible assumption) | (with_reducible refine Below.alloc ?_ ?_ _) | (with_reducible refine Below.setCell ?_ ?_ _) | (with_reducible refine Below.drew ?_) | (with_reducible refine below_setRow ?_ ?_ _) | (refine Below.trans ?_ (Below.mono (by assumption) ?_)))); all_goals (first | omega | (simp; done) | (simp; omega)))
    have kA_ := box_next hb8b hBA kA; clear kA
    have kA := kA_; clear kA_
    have hBA_ := Nat.lt_of_lt_of_le hBA hb8b.size; clear hBA; have hBA := hBA_; clear hBA_
    have kG_ := box_next hb8b hBG kG; clear kG
    have kG := kG_; clear kG_
    have hBG_ := Nat.lt_of_lt_of_le hBG hb8b.size; clear hBG; have hBG := hBG_; clear hBG_
    have kH_ := box_next hb8b hBH kH; clear kH
    have kH := kH_; clear kH_
    have hBH_ := Nat.lt_of_lt_of_le hBH hb8b.size; clear hBH; have hBH := hBH_; clear hBH_
    clear hb8; have hb8 := hb8b; clear hb8b
    have hT8 : Below w.heap.size w w8 := hT7.trans (hb8.mono hT7.size)
    go_wp2
    go_ret
    exact ⟨rfl, hT8⟩
set_option maxRecDepth 100000 in
theorem lifted (os : Os) (started : os.Started) (H : Type) (enc : TypeId × Value → H) :
    ReturnsInHanded {} Tryz.checked os 3 .any (fun w args => (Rows.fnExactReadRawSpec.pre enc Tryz.prog Tryz.f3 [] false w args ∧ laidMetH Tryz.prog Rows.fnExactReadRawRow.laid w) ∧ sizedMet enc Tryz.prog Tryz.f3 (OpenSpec.ofChange Rows.fnExactReadRawSpec) false w args)
      (Rows.fnExactReadRawSpec.post enc Tryz.prog Tryz.f3 false true false false) := by
  refine wrap_laid (C := Tryz.checked) (X := fun w => laidMetH Tryz.prog Rows.fnExactReadRawRow.laid w) (fun _ _ hh h => h.of_heap hh) own started (by kernel_rfl) Tryz.func3
    (ChangeSpec.witness_shaped (enc := enc) (C := Tryz.checked) (os := os) (X := fun w _ => laidMetH Tryz.prog Rows.fnExactReadRawRow.laid w) false (World.laidAll Tryz.prog os Rows.fnExactReadRawRow.laid) #[.string ByteArray.empty] 8 (World.laidAll_os _ _ _) (World.shaped_of_ZipB (by kernel_rfl) (by kernel_rfl)) (by kernel_rfl) (by kernel_rfl) (by kernel_rfl) (by rw [MakeChecks.laidMetH_plain _ _ _ (by kernel_rfl)]; exact laidMet_laidAll _ (by kernel_rfl) (by kernel_rfl))) ?_
  intro W base args ds gs before hval0 hW _ _ hL hsh
  have hval : ∀ (j : Nat) t v, Tryz.f3.params[j]? = some t → args[j]? = some v → Value.okWide Tryz.prog W .any base t v := hval0
  have hW' := hW
  obtain ⟨p, q, hA0, hV, rfl, hfz, hnd⟩ := hW
  have hA : DataW.TrodAll enc Tryz.prog W 0 (fun _ => true) true Tryz.f3.params.toList args.toList ds p := hA0
  rw [Tryz.params3] at hA hval
  obtain ⟨v0, vs0, d0, ds0, p0, q0, hargs, rfl, rfl, h0, r0⟩ := trodAll_cons hA
  obtain ⟨rfl, rfl, rfl⟩ := trodAll_nil r0
  obtain rfl : args = #[v0] := by cases args; simp_all
  obtain ⟨rfl, rfl⟩ := trodVars_none hV
  have k0 := h0
  have lt0 : ∀ x ∈ p0, x.block < W.heap.size := by obtain ⟨m, hm⟩ := k0; exact DataW.trod_lt m _ _ _ hm
  obtain ⟨x0, e0, w0⟩ := openStr Tryz.underlying9 (hval 0 9 v0 rfl rfl) h0
  subst e0
  clear hA0 hval0
  rw [MakeChecks.laidMetH_plain _ _ _ (by kernel_rfl)] at hL
  refine (walk W x0 w0 (of_laid hL hsh)).mono fun e W' ⟨he, bel⟩ => ?_
  subst he
  exact ⟨_, rfl, _, _, _, [], _, [], hW', trodAll_mk1 (shut_bool Tryz.underlying4 _), (trodAll_cons_mk (Below.trod laidOut (by kernel_rfl) (of_decide_eq_true (by kernel_rfl)) k0 bel lt0) trodAll_mk0), rfl, bel.frame _, fun h => by cases h⟩
theorem over : Rows.FnExactReadRawSaid :=
  OpenClaim.holds_of_wide 3 Tryz.f3 rfl rfl rfl rfl rfl rfl rfl ⟨rfl, rfl, rfl, rfl, rfl⟩ rfl rfl rfl rfl rfl (by kernel_rfl) Tryz.func3 (by kernel_rfl)
    (of_decide_eq_true (by kernel_rfl)) (by unfold Func.isWrapper; first | (rw [if_pos (by decide +kernel)]; kernel_rfl) | (rw [if_neg (by decide +kernel)]; exact ⟨rfl, rfl⟩))
    (fun os started H enc _ => lifted os started H enc)
theorem proved : Rows.FnExactReadRawCardSaid :=
  Claim7.holds_tied_plain_at .later [] [.data, .data, .data, .data, .sentinel, .sentinel, .pinned] true (true, "821e79c5559f6c964b8c42a6f5f1d274b0ba5f85ff794589a9ee90356c6e6ed0") true
    over (fun _ h => by cases h) (by kernel_rfl) (fun _ h => by cases h) fnExactReadRaw_row_tie rfl ⟨rfl, rfl⟩ (by kernel_rfl) rfl
    (fun f fn hf hfn => by
      obtain rfl : f = 3 := Option.some.inj ((show Tryz.prog.funcNamed "loop.example/g00498/laws.FnExactReadRaw" = some 3 by kernel_rfl).symm.trans hf) |>.symm
      obtain rfl : fn = Tryz.f3 := (Option.some.inj (Tryz.func3.symm.trans hfn)).symm
      exact ⟨by kernel_rfl, fun j t ht => by
        rw [Tryz.params3] at ht
        have hm : t ∈ [9] := by simpa using Array.mem_of_getElem? ht
        have hall : ([9].all fun u => !Tryz.prog.wantsStandIn u) = true := by kernel_rfl
        exact (show Tryz.prog.wantsStandIn t = false by simpa using List.all_eq_true.1 hall t hm)⟩)
    (by kernel_rfl)
end Go.Proofs.YtbjbgneiglopmaaGreatDoor.fnExactReadRaw

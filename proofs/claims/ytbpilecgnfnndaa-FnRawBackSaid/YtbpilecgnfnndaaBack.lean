/- FnRawBack: the description of a schema that is drawn, compiled, gives the schema, for every code; of a schema that is not valid there is no description. No condition. -/
import Derived.Test.YtbpilecgnfnndaaBack1
import Derived.Test.YtbpilecgnfnndaaBack2
import Derived.Test.YtbpilecgnfnndaaBack3
import Derived.Test.YtbpilecgnfnndaaBack4
import Derived.Test.YtbpilecgnfnndaaBack5
import Derived.Test.YtbpilecgnfnndaaBack6
import Derived.Test.YtbpilecgnfnndaaBack7
namespace Go.Proofs.Ytbpilecgnfnndaa.fnRawBack
set_option linter.unusedSimpArgs false
set_option linter.unusedVariables false
open Go.ChangeShapes Go.WideShapes Go.ChangeAt Go.RowKit Go.BigFrame
def DrawnSF (w : World) (r : Ending) (w' : World) : Prop :=
  ∃ a n cap rs xs, r = .returned (.agg #[.slice a n cap]) ∧ OwnShs w' w.heap.size 43 47 (.slice a n cap) n rs xs ∧ SchB xs ∧ Below w.heap.size w w'
set_option maxHeartbeats 2000000 in
theorem drawRawFrom_any (a : Option Addr) (cap n : Nat) (w : World) (h : Code w a n) (hn : n ≤ 1048576) :
    Calls Try.prog 16 #[.slice a n cap] w (DrawnSF w) := by
  go_enter Try.func16, Try.ntmps16
  go_wp2_with fail
  refine (l1New_any a cap n _ (h.keep (by ((repeat (first | (with_reducible exact Below.refl _ _) | (with_reducible assumption) | (with_reducible refine Below.alloc ?_ ?_ _) | (with_reducible refine Below.setCell ?_ ?_ _) | (with_reducible refine Below.drew ?_) | (with_reducible refine below_setRow ?_ ?_ _) | (refine Below.trans ?_ (Below.mono (by assumption) ?_)))); all_goals (first | omega | (simp; done) | (simp; omega))))) hn).mono ?_
  rintro r w1 ⟨B, rfl, hB, hc, hb1⟩
  simp only [World.size_alloc] at hB
  go_wp2_with fail
  refine (l8Bent_any B w1 hc).mono ?_
  rintro r w2 ⟨a2, m, cap2, rs, xs, rfl, ho, hg, hu⟩
  have hb2 : Below (w.heap.size + 1) w1 w2 := hu.oth.below hB hc.lt
  have hbw : Below w.heap.size w w2 := ((Below.refl _ _).alloc (Nat.le_refl _) _).trans ((hb1.mono (by simp)).trans (hb2.mono (by omega)))
  have hz1 := hb1.size
  simp only [World.size_alloc] at hz1
  have hR2 := (hb2.block w.heap.size (by omega)).trans ((hb1.block w.heap.size (by simp)).trans (hset_new (o := .cells #[.slice none 0 0] 30) rfl))
  have kR := box_cells hR2 0; have fR := box_frozen hR2; have hlR := box_lt hR2
  simp only [List.getElem?_toArray, List.getElem?_cons_zero] at kR
  have HR2 := Lib.hid hR2; have HO := Lib.hid ho; clear hR2 ho
  go_wp2_with fail
  refine bodyPost_ret (results_cell Try.results16 rfl (run_loadVar_mid _ w.heap.size 0 30 [.slice a2 m cap2] _ (range_of_box (t := 30) ?_) Try.underlying30 rfl (by kernel_rfl))) rfl ⟨_, _, _, _, _, rfl, (HO.out.set (by simp; omega) _).le (by omega), hg, hbw.setCell (Nat.le_refl _) _⟩
  apply hset_eq (hset_set HR2.out); simp only [List.setIfInBounds_toArray, List.set_cons_zero]
def sameV (a b : Int × Int × Int) : Bool := decide (a = b)
theorem run_eql_vio (a b e a' b' e' : Int) (w : World) :
    (binOp .eql 32 (.agg #[.int .i64 a, .int .i64 b, .int .i64 e]) (.agg #[.int .i64 a', .int .i64 b', .int .i64 e'])).run Try.prog w = .ok (.bool (sameV (a, b, e) (a', b', e'))) w := by
  simp [go_sem, sameV]
  by_cases h1 : a = a' <;> by_cases h2 : b = b' <;> by_cases h3 : e = e' <;> simp [h1, h2, h3]
theorem implRawOk_yes (a : Option Addr) (cap n : Nat) (xs : List Shp) (w : World) (h : ShsL w a xs) (hx : xs.length = n) (hn : n ≤ 1048576) (hcap : n ≤ cap) (hm : fldSum xs ≤ 1048576) (hv : firstV xs = (0, 0, 0)) :
    Calls Try.prog 20 #[.agg #[.slice a n cap]] w fun r w' => r = .returned (.bool true) ∧ Below w.heap.size w w' := by
  have HSs := Lib.hid h; have HV := Lib.hid hv; have HX := Lib.hid hx; clear h hv hx
  have hcall : ∀ W, ShsL W a xs → Calls Try.prog 32 #[.agg #[.slice a n cap]] W fun r w' => r = .returned (.agg #[.int .i64 0, .int .i64 0, .int .i64 0]) ∧ Below W.heap.size W w' := fun W hW => by
    have := implFirst_any a cap n xs W hW HX.out hn hcap hm
    rw [HV.out] at this; exact this
  go_enter Try.func20, Try.ntmps20
  go_wp2_with fail
  refine (hcall _ (HSs.out.keep (by ((repeat (first | (with_reducible exact Below.refl _ _) | (with_reducible assumption) | (with_reducible refine Below.alloc ?_ ?_ _) | (with_reducible refine Below.setCell ?_ ?_ _) | (with_reducible refine Below.drew ?_) | (with_reducible refine below_setRow ?_ ?_ _) | (refine Below.trans ?_ (Below.mono (by assumption) ?_)))); all_goals (first | omega | (simp; done) | (simp; omega)))))).mono ?_
  rintro r w1 ⟨rfl, hb1⟩
  have he := run_eql_vio 0 0 0 0 0 0 w1
  go_wp2
  go_ret
  exact ⟨rfl, by ((repeat (first | (with_reducible exact Below.refl _ _) | (with_reducible assumption) | (with_reducible refine Below.alloc ?_ ?_ _) | (with_reducible refine Below.setCell ?_ ?_ _) | (with_reducible refine Below.drew ?_) | (with_reducible refine below_setRow ?_ ?_ _) | (refine Below.trans ?_ (Below.mono (by assumption) ?_)))); all_goals (first | omega | (simp; done) | (simp; omega)))⟩
theorem implSame_yes (a a' : Option Addr) (cap cap' n : Nat) (xs : List Shp) (w : World) (h : Shs w a xs) (h' : Shs w a' xs) (hx : xs.length = n) (hn : n ≤ 1048576) (hm : fldSum xs ≤ 1048576) :
    Calls Try.prog 18 #[.agg #[.slice a n cap], .agg #[.slice a' n cap']] w fun r w' => r = .returned (.bool true) ∧ Below w.heap.size w w' := by
  have := implSameSchema_any a a' cap cap' n n xs xs w h h' hx hx hn hn hm hm
  rw [show decide (xs = xs) = true by simp] at this; exact this
theorem specSame_yes (a a' : Option Addr) (cap cap' n : Nat) (xs : List Shp) (w : World) (h : Shs w a xs) (h' : Shs w a' xs) (hx : xs.length = n) (hn : n ≤ 1048576) (hm : fldSum xs ≤ 1048576) :
    Calls Try.prog 19 #[.agg #[.slice a n cap], .agg #[.slice a' n cap']] w fun r w' => r = .returned (.bool true) ∧ Below w.heap.size w w' := by
  have := specSameSchema_any a a' cap cap' n n xs xs w h h' hx hx hn hn hm hm
  rw [show decide (xs = xs) = true by simp] at this; exact this
theorem compBack (a : Option Addr) (cap n : Nat) (xs ys : List Shp) (w : World) (h : ShsL w a ys) (hy : rawFrom xs = ys) (hx : ys.length = n) (hn : n ≤ 1048576) (hcap : n ≤ cap) (hm : fldSum ys ≤ 1048576) (hok : schOk xs = true) :
    Calls Try.prog 8 #[.agg #[.slice a n cap]] w fun r w' => ∃ a' cap', r = .returned (.tuple #[.agg #[.slice a' xs.length cap'], .agg #[.int .i64 0, .int .i64 0, .int .i64 0]]) ∧ Shs w' a' xs ∧ Below w.heap.size w w' := by
  have hv : firstV ys = (0, 0, 0) := by rw [← hy]; exact back_first hok
  have hc : compR ys = xs := by rw [compR_ok (by rw [hv]), ← hy]; exact back_comp hok
  refine (implCompile_any a cap n ys w h hx hn hcap hm).mono ?_
  rintro r w' ⟨a', cap', rs, hr, ho, hb⟩
  rw [hc] at hr ho
  rw [hv] at hr
  exact ⟨a', cap', hr, ho.shs, hb⟩
set_option maxRecDepth 100000 in
set_option maxHeartbeats 4000000 in
theorem walk (w : World) (x : SlArg Int) (hx : x.ok 1 byCs ByOk w) :
    Calls Try.prog 4 #[.slice x.a x.xs.length x.cap] w fun r w' => r = .returned (.bool true) ∧ Below w.heap.size w w' := by
  have hcode := code_of hx
  obtain ⟨a, cap, bs⟩ := x
  obtain ⟨_, _, hle, hcap⟩ := hx
  simp only at hcode hle hcap ⊢
  by_cases hbig : (1048576 : Int) < (bs.length : Int)
  · go_enter Try.func4, Try.ntmps4
    go_wp2_with (first | (go_at_call 6; refine (big_any _ _ _ _).mono ?_; rintro r w1 ⟨rfl, rfl⟩))
    go_ret
    exact ⟨rfl, by ((repeat (first | (with_reducible exact Below.refl _ _) | (with_reducible assumption) | (with_reducible refine Below.alloc ?_ ?_ _) | (with_reducible refine Below.setCell ?_ ?_ _) | (with_reducible refine Below.drew ?_) | (with_reducible refine below_setRow ?_ ?_ _) | (refine Below.trans ?_ (Below.mono (by assumption) ?_)))); all_goals (first | omega | (simp; done) | (simp; omega)))⟩
  · go_enter Try.func4, Try.ntmps4
    go_wp2_with (first | (go_at_call 6; refine (big_any _ _ _ _).mono ?_; rintro r w1 ⟨rfl, rfl⟩))
    refine (drawRawFrom_any a cap bs.length w hcode (by omega)).mono ?_
    rintro r w1 ⟨a1, n, cap1, rs, xs, rfl, ho, hg, hb1⟩
    have hxl := ho.lenx
    have hn7 : n ≤ 7 := by have := hg.n; omega
    have hms := hg.sum
    have HS := Lib.hid (ho.shs); have HX := Lib.hid hxl; clear ho hxl
    obtain ⟨ys, hy⟩ : ∃ ys, rawFrom xs = ys := ⟨_, rfl⟩
    have hny : ys.length ≤ 1048576 := by rw [← hy]; exact Nat.le_trans (rawFrom_len xs) (by rw [HX.out]; omega)
    have hmy : fldSum ys ≤ 1048576 := by rw [← hy]; exact Nat.le_trans (rawFrom_sum xs) hms
    have HY := Lib.hid hy; clear hy
    have hT1 : Below w.heap.size w w1 := hb1
    go_wp2_with fail
    refine (implRawFrom_any a1 cap1 n xs _ (HS.out.keep (by ((repeat (first | (with_reducible exact Below.refl _ _) | (with_reducible assumption) | (with_reducible refine Below.alloc ?_ ?_ _) | (with_reducible refine Below.setCell ?_ ?_ _) | (with_reducible refine Below.drew ?_) | (with_reducible refine below_setRow ?_ ?_ _) | (refine Below.trans ?_ (Below.mono (by assumption) ?_)))); all_goals (first | omega | (simp; done) | (simp; omega))))) HX.out (by omega) hms).mono ?_
    rintro r w2 ⟨a2, cap2, rs2, rfl, ho2, hb2⟩
    have hz2 := hb2.size
    try simp only [World.size_alloc, World.size_setCell, World.size_drew] at hz2
    have hb2b : Below w1.heap.size w1 w2 := by ((repeat (first | (with_reducible exact Below.refl _ _) | (with_reducible assumption) | (with_reducible refine Below.alloc ?_ ?_ _) | (with_reducible refine Below.setCell ?_ ?_ _) | (with_reducible refine Below.drew ?_) | (with_reducible refine below_setRow ?_ ?_ _) | (refine Below.trans ?_ (Below.mono (by assumption) ?_)))); all_goals (first | omega | (simp; done) | (simp; omega)))
    have kA := box_new0 hb2
    have hBA := box_lt0 hb2
    try simp only [World.size_alloc, World.size_setCell, World.size_drew] at kA
    try simp only [World.size_alloc, World.size_setCell, World.size_drew] at hBA
    clear hb2; have hb2 := hb2b; clear hb2b
    have hT2 : Below w.heap.size w w2 := hT1.trans (hb2.mono hT1.size)
    have HS2 := Lib.hid (HS.out.keep hb2)
    rw [HY.out] at ho2 ⊢
    have HL2 := Lib.hid ho2.shsL; have hcp2 := own_lecapR ho2.outer; clear ho2
    go_wp2_with fail
    refine (specSchemaOk_any _ _ _ xs _ (HS2.out.keep (by ((repeat (first | (with_reducible exact Below.refl _ _) | (with_reducible assumption) | (with_reducible refine Below.alloc ?_ ?_ _) | (with_reducible refine Below.setCell ?_ ?_ _) | (with_reducible refine Below.drew ?_) | (with_reducible refine below_setRow ?_ ?_ _) | (refine Below.trans ?_ (Below.mono (by assumption) ?_)))); all_goals (first | omega | (simp; done) | (simp; omega))))) HX.out (by omega) hms).mono ?_
    rintro r w3 ⟨rfl, hb3⟩
    have hz3 := hb3.size
    try simp only [World.size_alloc, World.size_setCell, World.size_drew] at hz3
    have hb3b : Below w2.heap.size w2 w3 := by ((repeat (first | (with_reducible exact Below.refl _ _) | (with_reducible assumption) | (with_reducible refine Below.alloc ?_ ?_ _) | (with_reducible refine Below.setCell ?_ ?_ _) | (with_reducible refine Below.drew ?_) | (with_reducible refine below_setRow ?_ ?_ _) | (refine Below.trans ?_ (Below.mono (by assumption) ?_)))); all_goals (first | omega | (simp; done) | (simp; omega)))
    have kA_ := box_next hb3b hBA kA; clear kA
    have kA := kA_; clear kA_
    have hBA_ := Nat.lt_of_lt_of_le hBA hb3b.size; clear hBA; have hBA := hBA_; clear hBA_
    have kR := box_new0 hb3
    have hBR := box_lt0 hb3
    try simp only [World.size_alloc, World.size_setCell, World.size_drew] at kR
    try simp only [World.size_alloc, World.size_setCell, World.size_drew] at hBR
    clear hb3; have hb3 := hb3b; clear hb3b
    have hT3 : Below w.heap.size w w3 := hT2.trans (hb3.mono hT2.size)
    have HS3 := Lib.hid (HS2.out.keep hb3)
    have HL3 := Lib.hid (HL2.out.keep hb3)
    clear HS HS2 HL2
    cases hso : schOk xs
    · have hy0 : ys.length = 0 := by rw [← HY.out, rawFrom, hso]; rfl
      rw [hy0] at kR
      have hcall : ∀ W, Shs W a1 xs → Calls Try.prog 10 #[.agg #[.slice a1 n cap1]] W fun r w' => r = .returned (.bool false) ∧ Below W.heap.size W w' := fun W hW => by
        have := implSchemaOk_any a1 cap1 n xs W hW HX.out (by omega) hms
        rw [hso] at this; exact this
      go_wp2_with fail
      refine (hcall _ (HS3.out.keep (by ((repeat (first | (with_reducible exact Below.refl _ _) | (with_reducible assumption) | (with_reducible refine Below.alloc ?_ ?_ _) | (with_reducible refine Below.setCell ?_ ?_ _) | (with_reducible refine Below.drew ?_) | (with_reducible refine below_setRow ?_ ?_ _) | (refine Below.trans ?_ (Below.mono (by assumption) ?_)))); all_goals (first | omega | (simp; done) | (simp; omega)))))).mono ?_
      rintro r w4 ⟨rfl, hb4⟩
      have hz4 := hb4.size
      try simp only [World.size_alloc, World.size_setCell, World.size_drew] at hz4
      have hb4b : Below w3.heap.size w3 w4 := by ((repeat (first | (with_reducible exact Below.refl _ _) | (with_reducible assumption) | (with_reducible refine Below.alloc ?_ ?_ _) | (with_reducible refine Below.setCell ?_ ?_ _) | (with_reducible refine Below.drew ?_) | (with_reducible refine below_setRow ?_ ?_ _) | (refine Below.trans ?_ (Below.mono (by assumption) ?_)))); all_goals (first | omega | (simp; done) | (simp; omega)))
      have kA_ := box_next hb4b hBA kA; clear kA
      have kA := kA_; clear kA_
      have hBA_ := Nat.lt_of_lt_of_le hBA hb4b.size; clear hBA; have hBA := hBA_; clear hBA_
      have kR_ := box_next hb4b hBR kR; clear kR
      have kR := kR_; clear kR_
      have hBR_ := Nat.lt_of_lt_of_le hBR hb4b.size; clear hBR; have hBR := hBR_; clear hBR_
      clear hb4; have hb4 := hb4b; clear hb4b
      go_wp2
      go_ret
      exact ⟨rfl, hT3.trans (hb4.mono hT3.size)⟩
    · have hok := hso
      have HOK := Lib.hid hso; clear hso hok
      go_wp2_with fail
      refine (compBack a2 cap2 ys.length xs ys _ (HL3.out.keep (by ((repeat (first | (with_reducible exact Below.refl _ _) | (with_reducible assumption) | (with_reducible refine Below.alloc ?_ ?_ _) | (with_reducible refine Below.setCell ?_ ?_ _) | (with_reducible refine Below.drew ?_) | (with_reducible refine below_setRow ?_ ?_ _) | (refine Below.trans ?_ (Below.mono (by assumption) ?_)))); all_goals (first | omega | (simp; done) | (simp; omega))))) HY.out rfl hny hcp2 hmy HOK.out).mono ?_
      rintro r w4 ⟨a4, cap4, rfl, hs4, hb4⟩
      have hz4 := hb4.size
      try simp only [World.size_alloc, World.size_setCell, World.size_drew] at hz4
      have hb4b : Below w3.heap.size w3 w4 := by ((repeat (first | (with_reducible exact Below.refl _ _) | (with_reducible assumption) | (with_reducible refine Below.alloc ?_ ?_ _) | (with_reducible refine Below.setCell ?_ ?_ _) | (with_reducible refine Below.drew ?_) | (with_reducible refine below_setRow ?_ ?_ _) | (refine Below.trans ?_ (Below.mono (by assumption) ?_)))); all_goals (first | omega | (simp; done) | (simp; omega)))
      have kA_ := box_next hb4b hBA kA; clear kA
      have kA := kA_; clear kA_
      have hBA_ := Nat.lt_of_lt_of_le hBA hb4b.size; clear hBA; have hBA := hBA_; clear hBA_
      have kR_ := box_next hb4b hBR kR; clear kR
      have kR := kR_; clear kR_
      have hBR_ := Nat.lt_of_lt_of_le hBR hb4b.size; clear hBR; have hBR := hBR_; clear hBR_
      clear hb4; have hb4 := hb4b; clear hb4b
      have hT4 : Below w.heap.size w w4 := hT3.trans (hb4.mono hT3.size)
      have HS4 := Lib.hid (HS3.out.keep hb4)
      have HL4 := Lib.hid (HL3.out.keep hb4)
      have HT4 := Lib.hid hs4
      clear HS3 HL3 hs4
      rw [HX.out]
      go_wp2_with fail
      refine (implSame_yes _ _ _ _ n xs _ (HS4.out.keep (by ((repeat (first | (with_reducible exact Below.refl _ _) | (with_reducible assumption) | (with_reducible refine Below.alloc ?_ ?_ _) | (with_reducible refine Below.setCell ?_ ?_ _) | (with_reducible refine Below.drew ?_) | (with_reducible refine below_setRow ?_ ?_ _) | (refine Below.trans ?_ (Below.mono (by assumption) ?_)))); all_goals (first | omega | (simp; done) | (simp; omega))))) (HT4.out.keep (by ((repeat (first | (with_reducible exact Below.refl _ _) | (with_reducible assumption) | (with_reducible refine Below.alloc ?_ ?_ _) | (with_reducible refine Below.setCell ?_ ?_ _) | (with_reducible refine Below.drew ?_) | (with_reducible refine below_setRow ?_ ?_ _) | (refine Below.trans ?_ (Below.mono (by assumption) ?_)))); all_goals (first | omega | (simp; done) | (simp; omega))))) HX.out (by omega) hms).mono ?_
      rintro r w5 ⟨rfl, hb5⟩
      have hz5 := hb5.size
      try simp only [World.size_alloc, World.size_setCell, World.size_drew] at hz5
      have hb5b : Below w4.heap.size w4 w5 := by ((repeat (first | (with_reducible exact Below.refl _ _) | (with_reducible assumption) | (with_reducible refine Below.alloc ?_ ?_ _) | (with_reducible refine Below.setCell ?_ ?_ _) | (with_reducible refine Below.drew ?_) | (with_reducible refine below_setRow ?_ ?_ _) | (refine Below.trans ?_ (Below.mono (by assumption) ?_)))); all_goals (first | omega | (simp; done) | (simp; omega)))
      have kA_ := box_next hb5b hBA kA; clear kA
      have kA := kA_; clear kA_
      have hBA_ := Nat.lt_of_lt_of_le hBA hb5b.size; clear hBA; have hBA := hBA_; clear hBA_
      have kR_ := box_next hb5b hBR kR; clear kR
      have kR := kR_; clear kR_
      have hBR_ := Nat.lt_of_lt_of_le hBR hb5b.size; clear hBR; have hBR := hBR_; clear hBR_
      have kV := box_new0 hb5
      have hBV := box_lt0 hb5
      try simp only [World.size_alloc, World.size_setCell, World.size_drew] at kV
      try simp only [World.size_alloc, World.size_setCell, World.size_drew] at hBV
      have kT := box_new1 hb5
      have hBT := box_lt1 hb5
      try simp only [World.size_alloc, World.size_setCell, World.size_drew] at kT
      try simp only [World.size_alloc, World.size_setCell, World.size_drew] at hBT
      clear hb5; have hb5 := hb5b; clear hb5b
      have hT5 : Below w.heap.size w w5 := hT4.trans (hb5.mono hT4.size)
      have HS5 := Lib.hid (HS4.out.keep hb5)
      have HL5 := Lib.hid (HL4.out.keep hb5)
      have HT5 := Lib.hid (HT4.out.keep hb5)
      clear HS4 HL4 HT4
      go_wp2_with fail
      refine (specSame_yes _ _ _ _ n xs _ (HS5.out.keep (by ((repeat (first | (with_reducible exact Below.refl _ _) | (with_reducible assumption) | (with_reducible refine Below.alloc ?_ ?_ _) | (with_reducible refine Below.setCell ?_ ?_ _) | (with_reducible refine Below.drew ?_) | (with_reducible refine below_setRow ?_ ?_ _) | (refine Below.trans ?_ (Below.mono (by assumption) ?_)))); all_goals (first | omega | (simp; done) | (simp; omega))))) (HT5.out.keep (by ((repeat (first | (with_reducible exact Below.refl _ _) | (with_reducible assumption) | (with_reducible refine Below.alloc ?_ ?_ _) | (with_reducible refine Below.setCell ?_ ?_ _) | (with_reducible refine Below.drew ?_) | (with_reducible refine below_setRow ?_ ?_ _) | (refine Below.trans ?_ (Below.mono (by assumption) ?_)))); all_goals (first | omega | (simp; done) | (simp; omega))))) HX.out (by omega) hms).mono ?_
      rintro r w6 ⟨rfl, hb6⟩
      have hz6 := hb6.size
      try simp only [World.size_alloc, World.size_setCell, World.size_drew] at hz6
      have hb6b : Below w5.heap.size w5 w6 := by ((repeat (first | (with_reducible exact Below.refl _ _) | (with_reducible assumption) | (with_reducible refine Below.alloc ?_ ?_ _) | (with_reducible refine Below.setCell ?_ ?_ _) | (with_reducible refine Below.drew ?_) | (with_reducible refine below_setRow ?_ ?_ _) | (refine Below.trans ?_ (Below.mono (by assumption) ?_)))); all_goals (first | omega | (simp; done) | (simp; omega)))
      have kA_ := box_next hb6b hBA kA; clear kA
      have kA := kA_; clear kA_
      have hBA_ := Nat.lt_of_lt_of_le hBA hb6b.size; clear hBA; have hBA := hBA_; clear hBA_
      have kR_ := box_next hb6b hBR kR; clear kR
      have kR := kR_; clear kR_
      have hBR_ := Nat.lt_of_lt_of_le hBR hb6b.size; clear hBR; have hBR := hBR_; clear hBR_
      have kT_ := box_next hb6b hBT kT; clear kT
      have kT := kT_; clear kT_
      have hBT_ := Nat.lt_of_lt_of_le hBT hb6b.size; clear hBT; have hBT := hBT_; clear hBT_
      have kV_ := box_next hb6b hBV kV; clear kV
      have kV := kV_; clear kV_
      have hBV_ := Nat.lt_of_lt_of_le hBV hb6b.size; clear hBV; have hBV := hBV_; clear hBV_
      clear hb6; have hb6 := hb6b; clear hb6b
      have hT6 : Below w.heap.size w w6 := hT5.trans (hb6.mono hT5.size)
      have HL6 := Lib.hid (HL5.out.keep hb6)
      go_wp2_with fail
      refine (implRawOk_yes _ _ ys.length ys _ (HL6.out.keep (by ((repeat (first | (with_reducible exact Below.refl _ _) | (with_reducible assumption) | (with_reducible refine Below.alloc ?_ ?_ _) | (with_reducible refine Below.setCell ?_ ?_ _) | (with_reducible refine Below.drew ?_) | (with_reducible refine below_setRow ?_ ?_ _) | (refine Below.trans ?_ (Below.mono (by assumption) ?_)))); all_goals (first | omega | (simp; done) | (simp; omega))))) rfl hny hcp2 hmy (by rw [← HY.out]; exact back_first HOK.out)).mono ?_
      rintro r w7 ⟨rfl, hb7⟩
      have hz7 := hb7.size
      try simp only [World.size_alloc, World.size_setCell, World.size_drew] at hz7
      have hb7b : Below w6.heap.size w6 w7 := by ((repeat (first | (with_reducible exact Below.refl _ _) | (with_reducible assumption) | (with_reducible refine Below.alloc ?_ ?_ _) | (with_reducible refine Below.setCell ?_ ?_ _) | (with_reducible refine Below.drew ?_) | (with_reducible refine below_setRow ?_ ?_ _) | (refine Below.trans ?_ (Below.mono (by assumption) ?_)))); all_goals (first | omega | (simp; done) | (simp; omega)))
      have kA_ := box_next hb7b hBA kA; clear kA
      have kA := kA_; clear kA_
      have hBA_ := Nat.lt_of_lt_of_le hBA hb7b.size; clear hBA; have hBA := hBA_; clear hBA_
      have kR_ := box_next hb7b hBR kR; clear kR
      have kR := kR_; clear kR_
      have hBR_ := Nat.lt_of_lt_of_le hBR hb7b.size; clear hBR; have hBR := hBR_; clear hBR_
      have kT_ := box_next hb7b hBT kT; clear kT
      have kT := kT_; clear kT_
      have hBT_ := Nat.lt_of_lt_of_le hBT hb7b.size; clear hBT; have hBT := hBT_; clear hBT_
      have kV_ := box_next hb7b hBV kV; clear kV
      have kV := kV_; clear kV_
      have hBV_ := Nat.lt_of_lt_of_le hBV hb7b.size; clear hBV; have hBV := hBV_; clear hBV_
      clear hb7; have hb7 := hb7b; clear hb7b
      go_wp2
      go_ret
      exact ⟨rfl, hT6.trans (hb7.mono hT6.size)⟩
set_option maxRecDepth 100000 in
theorem lifted (os : Os) (started : os.Started) (H : Type) (enc : TypeId × Value → H) :
    ReturnsInHanded {} Try.checked os 4 .any (Rows.fnRawBackSpec.pre6 enc Try.prog Try.f4 Rows.fnRawBackRow.domain false) (Rows.fnRawBackSpec.post enc Try.prog Try.f4 false true false false) := by
  refine returnsInHanded_of_change (C := Try.checked) own started (by kernel_rfl) Try.func4
    (ChangeSpec.witness6 (enc := enc) (C := Try.checked) false ⟨#[], #[.slice none 0 0], []⟩ 8 (by kernel_rfl) (by kernel_rfl) (by kernel_rfl) (by kernel_rfl)) ?_
  intro W base args ds gs before hval0 hW hcnd _
  have hval : ∀ (j : Nat) t v, Try.f4.params[j]? = some t → args[j]? = some v → Value.okWide Try.prog W .any base t v := hval0
  have hW' := hW
  obtain ⟨p, q, hA0, hV, rfl, hfz, hnd⟩ := hW
  have hA : DataW.TrodAll enc Try.prog W 0 (fun _ => true) true Try.f4.params.toList args.toList ds p := hA0
  rw [Try.params4] at hA hval
  obtain ⟨v0, vs0, d0, ds0, p0, q0, hargs, rfl, rfl, h0, r0⟩ := trodAll_cons hA
  obtain ⟨rfl, rfl, rfl⟩ := trodAll_nil r0
  obtain rfl : args = #[v0] := by cases args; simp_all
  obtain ⟨rfl, rfl⟩ := trodVars_none hV
  have k0 := h0
  have lt0 : ∀ x ∈ p0, x.block < W.heap.size := by obtain ⟨m, hm⟩ := k0; exact DataW.trod_lt m _ _ _ hm
  obtain ⟨x0, e0, w0⟩ := openBytes (hval 0 22 v0 rfl rfl) h0
  subst e0
  clear hA0 hval0
  refine (walk W x0 w0).mono fun e W' ⟨he, bel⟩ => ?_
  subst he
  exact ⟨_, rfl, _, _, _, [], _, [], hW', trodAll_mk1 (shut_bool Try.underlying4 _), (trodAll_cons_mk (Below.trod laidOut (by kernel_rfl) (of_decide_eq_true (by kernel_rfl)) k0 bel lt0) trodAll_mk0), rfl, bel.frame _, fun h => by cases h⟩
theorem over : Rows.fnRawBackRow.holds Try.pinned (OpenSpec.ofChange Rows.fnRawBackSpec) :=
  OpenClaim.holds_of_wide 4 Try.f4 rfl rfl rfl rfl rfl rfl rfl ⟨rfl, rfl, rfl, rfl, rfl⟩ rfl rfl rfl rfl rfl (by kernel_rfl) Try.func4 (by kernel_rfl)
    (of_decide_eq_true (by kernel_rfl)) (by unfold Func.isWrapper; first | (rw [if_pos (by decide +kernel)]; kernel_rfl) | (rw [if_neg (by decide +kernel)]; exact ⟨rfl, rfl⟩))
    (fun os started H enc _ => lifted os started H enc)
theorem proved : Rows.FnRawBackSaid := over
end Go.Proofs.Ytbpilecgnfnndaa.fnRawBack

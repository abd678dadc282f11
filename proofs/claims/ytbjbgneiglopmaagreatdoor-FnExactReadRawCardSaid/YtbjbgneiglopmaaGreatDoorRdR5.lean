/- Texts that ReadRawL leans on, part 5. (Put together by wip/tools/bundle.py.) -/
import Derived.Test.YtbjbgneiglopmaaGreatDoorRdR1
import Derived.Test.YtbjbgneiglopmaaGreatDoorRdR2
import Derived.Test.YtbjbgneiglopmaaGreatDoorRdR3
import Derived.Test.YtbjbgneiglopmaaGreatDoorRdR4
namespace Go.Proofs.YtbjbgneiglopmaaGreatDoor
set_option linter.unusedSimpArgs false
set_option linter.unusedVariables false
open Go.ChangeShapes Go.WideShapes Go.ChangeAt Go.RowKit Go.BigFrame
theorem firstV_zeroV {xs : List Shp} (h : (firstV xs).1 = 0) : firstV xs = (0, 0, 0) := by
  have hv := val_of h
  have hn := hv.n
  rw [firstV, if_neg (by omega)]
  have := firstM_zero (xs := xs) (fun i x hx => ⟨hv.msg i x hx, hv.fld i x hx⟩) 0
  simpa using this
def rawOk (xs : List Shp) : Bool := decide ((firstV xs).1 = 0)
set_option maxRecDepth 100000 in
theorem implRawOk_any (a : Option Addr) (cap n : Nat) (xs : List Shp) (w : World) (h : ShsL w a xs) (hx : xs.length = n) (hn : n ≤ 1048576) (hcap : n ≤ cap) (hm : fldSum xs ≤ 1048576) :
    Calls Tryz.prog 29 #[.agg #[.slice a n cap]] w fun r w' => r = .returned (.bool (rawOk xs)) ∧ Below w.heap.size w w' := by
  have HSs := Lib.hid h; have HX := Lib.hid hx; clear h hx
  by_cases h0 : (firstV xs).1 = 0
  · have hr : rawOk xs = true := by rw [rawOk, decide_eq_true h0]
    have hcall : ∀ W, ShsL W a xs → Calls Tryz.prog 52 #[.agg #[.slice a n cap]] W fun r w' => r = .returned (.agg #[.int .i64 0, .int .i64 0, .int .i64 0]) ∧ Below W.heap.size W w' := fun W hW => by
      have := implFirst_any a cap n xs W hW HX.out hn hcap hm
      rw [firstV_zeroV h0] at this; exact this
    rw [hr]
    clear h0 hr
    go_enter Tryz.func29, Tryz.ntmps29
    go_wp2_with fail
    refine (hcall _ (HSs.out.keep (by ((repeat (first | (with_reducible exact Below.refl _ _) | (with_reducible assumption) | (with_reducible refine Below.alloc ?_ ?_ _) | (with_reducible refine Below.setCell ?_ ?_ _) | (with_reducible refine Below.drew ?_) | (with_reducible refine below_setRow ?_ ?_ _) | (refine Below.trans ?_ (Below.mono (by assumption) ?_)))); all_goals (first | omega | (simp; done) | (simp; omega)))))).mono ?_
    rintro r w1 ⟨rfl, hb1⟩
    clear hcall
    go_wp2
    go_ret
    exact ⟨rfl, by ((repeat (first | (with_reducible exact Below.refl _ _) | (with_reducible assumption) | (with_reducible refine Below.alloc ?_ ?_ _) | (with_reducible refine Below.setCell ?_ ?_ _) | (with_reducible refine Below.drew ?_) | (with_reducible refine below_setRow ?_ ?_ _) | (refine Below.trans ?_ (Below.mono (by assumption) ?_)))); all_goals (first | omega | (simp; done) | (simp; omega)))⟩
  · have hr : rawOk xs = false := by rw [rawOk, decide_eq_false h0]
    obtain ⟨⟨v0, v1, v2⟩, hv⟩ : ∃ v, firstV xs = v := ⟨_, rfl⟩
    rw [hv] at h0
    have h1 : (v0 == 0) = false := by simpa using h0
    have h2 : decide (v0 = 0) = false := by simpa using h0
    have h3 : ¬ v0 = 0 := h0
    have hcall : ∀ W, ShsL W a xs → Calls Tryz.prog 52 #[.agg #[.slice a n cap]] W fun r w' => r = .returned (.agg #[.int .i64 v0, .int .i64 v1, .int .i64 v2]) ∧ Below W.heap.size W w' := fun W hW => by
      have := implFirst_any a cap n xs W hW HX.out hn hcap hm
      rw [hv] at this; exact this
    rw [hr]
    clear h0 hr hv
    go_enter Tryz.func29, Tryz.ntmps29
    go_wp2_with fail
    refine (hcall _ (HSs.out.keep (by ((repeat (first | (with_reducible exact Below.refl _ _) | (with_reducible assumption) | (with_reducible refine Below.alloc ?_ ?_ _) | (with_reducible refine Below.setCell ?_ ?_ _) | (with_reducible refine Below.drew ?_) | (with_reducible refine below_setRow ?_ ?_ _) | (refine Below.trans ?_ (Below.mono (by assumption) ?_)))); all_goals (first | omega | (simp; done) | (simp; omega)))))).mono ?_
    rintro r w1 ⟨rfl, hb1⟩
    clear hcall
    go_wp2
    go_ret
    exact ⟨rfl, by ((repeat (first | (with_reducible exact Below.refl _ _) | (with_reducible assumption) | (with_reducible refine Below.alloc ?_ ?_ _) | (with_reducible refine Below.setCell ?_ ?_ _) | (with_reducible refine Below.drew ?_) | (with_reducible refine below_setRow ?_ ?_ _) | (refine Below.trans ?_ (Below.mono (by assumption) ?_)))); all_goals (first | omega | (simp; done) | (simp; omega)))⟩
set_option maxRecDepth 100000 in
theorem specRawOk_any (a : Option Addr) (cap n : Nat) (xs : List Shp) (w : World) (h : ShsL w a xs) (hx : xs.length = n) (hn : n ≤ 1048576) (hm : fldSum xs ≤ 1048576) :
    Calls Tryz.prog 13 #[.agg #[.slice a n cap]] w fun r w' => r = .returned (.bool (rawOk xs)) ∧ Below w.heap.size w w' := by
  have HSs := Lib.hid h; have HX := Lib.hid hx; clear h hx
  obtain ⟨⟨v0, v1, v2⟩, hv⟩ : ∃ v, firstV xs = v := ⟨_, rfl⟩
  have hs : rawOk xs = (v0 == 0) := by rw [rawOk, hv]; rfl
  have HV := Lib.hid hv; clear hv
  have hcall : ∀ W, ShsL W a xs → Calls Tryz.prog 33 #[.agg #[.slice a n cap]] W fun r w' => r = .returned (.agg #[.int .i64 v0, .int .i64 v1, .int .i64 v2]) ∧ Below W.heap.size W w' := fun W hW => by
    have := specFirst_any a cap n xs W hW HX.out hn hm
    rw [HV.out] at this; exact this
  rw [hs]
  clear hs
  go_enter Tryz.func13, Tryz.ntmps13
  go_wp2_with fail
  refine (hcall _ (HSs.out.keep (by ((repeat (first | (with_reducible exact Below.refl _ _) | (with_reducible assumption) | (with_reducible refine Below.alloc ?_ ?_ _) | (with_reducible refine Below.setCell ?_ ?_ _) | (with_reducible refine Below.drew ?_) | (with_reducible refine below_setRow ?_ ?_ _) | (refine Below.trans ?_ (Below.mono (by assumption) ?_)))); all_goals (first | omega | (simp; done) | (simp; omega)))))).mono ?_
  rintro r w1 ⟨rfl, hb1⟩
  clear hcall
  have hf : (Instr.field 59 (.agg #[.int .i64 v0, .int .i64 v1, .int .i64 v2]) 0).run Tryz.prog w1 = .ok (.int .i64 v0) w1 := by
    simp [Instr.field, asAgg, go_sem, run_underlying Tryz.underlying59]
  go_wp2
  go_ret
  exact ⟨rfl, by ((repeat (first | (with_reducible exact Below.refl _ _) | (with_reducible assumption) | (with_reducible refine Below.alloc ?_ ?_ _) | (with_reducible refine Below.setCell ?_ ?_ _) | (with_reducible refine Below.drew ?_) | (with_reducible refine below_setRow ?_ ?_ _) | (refine Below.trans ?_ (Below.mono (by assumption) ?_)))); all_goals (first | omega | (simp; done) | (simp; omega)))⟩
def rawTextL (xs : List Shp) : List UInt8 := if rawOk xs = true then txtL xs else []
theorem rawOk_val {xs : List Shp} (h : rawOk xs = true) : RawVal xs := val_of (by simpa [rawOk] using h)
theorem RawVal.txB {xs : List Shp} (h : RawVal xs) : TxB xs := by
  refine ⟨by have := h.n; omega, fun x hx => by have := h.len hx; omega, fun x hx => ?_⟩
  obtain ⟨i, hi⟩ := List.getElem?_of_mem hx
  have := (msgC_id (h.msg i x hi)).1
  simp only [inB, decide_eq_true_eq] at this
  omega
theorem specRawText_any (a : Option Addr) (cap n : Nat) (xs : List Shp) (w : World) (h : ShsL w a xs) (hx : xs.length = n) (hn : n ≤ 1048576) (hm : fldSum xs ≤ 1048576) :
    Calls Tryz.prog 19 #[.agg #[.slice a n cap]] w fun r w' => r = .returned (.string (sB (rawTextL xs))) ∧ Below w.heap.size w w' := by
  have HSs := Lib.hid h; have HX := Lib.hid hx; clear h hx
  obtain ⟨ok, hok⟩ : ∃ ok, rawOk xs = ok := ⟨_, rfl⟩
  have hcall : ∀ W, ShsL W a xs → Calls Tryz.prog 13 #[.agg #[.slice a n cap]] W fun r w' => r = .returned (.bool ok) ∧ Below W.heap.size W w' := fun W hW => by
    have := specRawOk_any a cap n xs W hW HX.out hn hm
    rw [hok] at this; exact this
  have HO := Lib.hid hok; clear hok
  cases ok
  · have hr : rawTextL xs = [] := by rw [rawTextL, HO.out]; rfl
    go_enter Tryz.func19, Tryz.ntmps19
    go_wp2_with fail
    refine (hcall _ (HSs.out.keep (by ((repeat (first | (with_reducible exact Below.refl _ _) | (with_reducible assumption) | (with_reducible refine Below.alloc ?_ ?_ _) | (with_reducible refine Below.setCell ?_ ?_ _) | (with_reducible refine Below.drew ?_) | (with_reducible refine below_setRow ?_ ?_ _) | (refine Below.trans ?_ (Below.mono (by assumption) ?_)))); all_goals (first | omega | (simp; done) | (simp; omega)))))).mono ?_
    rintro r w1 ⟨rfl, hb1⟩
    go_wp2
    go_ret
    exact ⟨ret_str (by rw [hr]), by ((repeat (first | (with_reducible exact Below.refl _ _) | (with_reducible assumption) | (with_reducible refine Below.alloc ?_ ?_ _) | (with_reducible refine Below.setCell ?_ ?_ _) | (with_reducible refine Below.drew ?_) | (with_reducible refine below_setRow ?_ ?_ _) | (refine Below.trans ?_ (Below.mono (by assumption) ?_)))); all_goals (first | omega | (simp; done) | (simp; omega)))⟩
  · have hr : rawTextL xs = txtL xs := by rw [rawTextL, HO.out]; rfl
    rw [hr]
    go_enter Tryz.func19, Tryz.ntmps19
    go_wp2_with fail
    refine (hcall _ (HSs.out.keep (by ((repeat (first | (with_reducible exact Below.refl _ _) | (with_reducible assumption) | (with_reducible refine Below.alloc ?_ ?_ _) | (with_reducible refine Below.setCell ?_ ?_ _) | (with_reducible refine Below.drew ?_) | (with_reducible refine below_setRow ?_ ?_ _) | (refine Below.trans ?_ (Below.mono (by assumption) ?_)))); all_goals (first | omega | (simp; done) | (simp; omega)))))).mono ?_
    rintro r w1 ⟨rfl, hb1⟩
    have hz1 := hb1.size
    try simp only [World.size_alloc, World.size_setCell, World.size_drew] at hz1
    have hb1b : Below w.heap.size w w1 := by ((repeat (first | (with_reducible exact Below.refl _ _) | (with_reducible assumption) | (with_reducible refine Below.alloc ?_ ?_ _) | (with_reducible refine Below.setCell ?_ ?_ _) | (with_reducible refine Below.drew ?_) | (with_reducible refine below_setRow ?_ ?_ _) | (refine Below.trans ?_ (Below.mono (by assumption) ?_)))); all_goals (first | omega | (simp; done) | (simp; omega)))
    have kA := box_new0 hb1
    have hBA := box_lt0 hb1
    try simp only [World.size_alloc, World.size_setCell, World.size_drew] at kA
    try simp only [World.size_alloc, World.size_setCell, World.size_drew] at hBA
    clear hb1; have hb1 := hb1b; clear hb1b
    have hT1 : Below w.heap.size w w1 := by ((repeat (first | (with_reducible exact Below.refl _ _) | (with_reducible assumption) | (with_reducible refine Below.alloc ?_ ?_ _) | (with_reducible refine Below.setCell ?_ ?_ _) | (with_reducible refine Below.drew ?_) | (with_reducible refine below_setRow ?_ ?_ _) | (refine Below.trans ?_ (Below.mono (by assumption) ?_)))); all_goals (first | omega | (simp; done) | (simp; omega)))
    go_wp2_with fail
    refine (l9Text_any a cap n xs _ ((HSs.out.keep hT1).keep (by ((repeat (first | (with_reducible exact Below.refl _ _) | (with_reducible assumption) | (with_reducible refine Below.alloc ?_ ?_ _) | (with_reducible refine Below.setCell ?_ ?_ _) | (with_reducible refine Below.drew ?_) | (with_reducible refine below_setRow ?_ ?_ _) | (refine Below.trans ?_ (Below.mono (by assumption) ?_)))); all_goals (first | omega | (simp; done) | (simp; omega))))).shs HX.out (rawOk_val HO.out).txB).mono ?_
    rintro r w2 ⟨rfl, hb2⟩
    have hz2 := hb2.size
    try simp only [World.size_alloc, World.size_setCell, World.size_drew] at hz2
    have hb2b : Below w1.heap.size w1 w2 := by ((repeat (first | (with_reducible exact Below.refl _ _) | (with_reducible assumption) | (with_reducible refine Below.alloc ?_ ?_ _) | (with_reducible refine Below.setCell ?_ ?_ _) | (with_reducible refine Below.drew ?_) | (with_reducible refine below_setRow ?_ ?_ _) | (refine Below.trans ?_ (Below.mono (by assumption) ?_)))); all_goals (first | omega | (simp; done) | (simp; omega)))
    have kA_ := box_next hb2b hBA kA; clear kA
    have kA := kA_; clear kA_
    have hBA_ := Nat.lt_of_lt_of_le hBA hb2b.size; clear hBA; have hBA := hBA_; clear hBA_
    clear hb2; have hb2 := hb2b; clear hb2b
    go_wp2
    go_ret
    exact ⟨rfl, hT1.trans (hb2.mono hT1.size)⟩
theorem info_strT : (Tryz.prog.info? 9).map (fun i => (i.zero, i.size, i.bytes)) = some (some (.string ByteArray.empty), 1, 16) := by kernel_rfl
theorem own_atT {w : World} {base n cap size g : Nat} {t : TypeId} {L : List Value} (h : w.ownsRow base t size (.slice (some ⟨g, 0, none⟩) n cap) n L) {j : Nat} {u : Value} (hj : L[j]? = some u) : w.cell? ⟨g, j, none⟩ = some u := by
  have := h.cells (g := g) rfl j u hj
  by_cases h0 : j = 0
  · subst h0; simpa [Addr.add] using this
  · simpa [Addr.add, h0] using this
@[reducible] def strRow (L : List (List UInt8)) : List Value := L.map fun l => .string (sB l)
theorem joinRow_any (base : Nat) (v : Value) (n : Nat) (L : List (List UInt8)) (sep : List UInt8) (w : World) (ho : w.ownsRow base 9 1 v n (strRow L)) (hl : L.length = n) (hn : n ≤ 20) (hj : (Lib.join L sep).length ≤ 10000) :
    Calls Tryz.prog 32 #[v, .string (sB sep)] w fun r w' => r = .returned (.string (sB (Lib.join L sep))) ∧ Below w.heap.size w w' := by
  obtain ⟨a, cap, rfl, _⟩ := own_sh ho
  by_cases h0 : n = 0
  · subst h0
    have hL : L = [] := List.length_eq_zero_iff.1 hl
    subst hL
    refine (Tryz.strings_Join_none a cap (sB sep) w).mono ?_
    rintro r w' ⟨rfl, rfl⟩
    exact ⟨rfl, Below.refl _ _⟩
  · obtain ⟨g, cap', e, hg, hgl⟩ := ho.form (by omega)
    simp only [Value.slice.injEq, true_and] at e
    obtain ⟨rfl, rfl⟩ := e
    have hcap := own_lecapR ho
    have hm : (L.map sB).map (·.data.toList) = L := by simp [Function.comp_def]
    have := Tryz.strings_Join g 0 cap (L.map sB) (sB sep) w (fun j x hx => ?_) hgl (by simp; omega) (by simpa [hl] using hcap) (by rw [hm]; simp; omega)
    · rw [hm, List.length_map, hl] at this
      exact this
    · rw [List.getElem?_map, Option.map_eq_some_iff] at hx
      obtain ⟨l, hlx, rfl⟩ := hx
      rw [Nat.zero_add]
      exact own_atT ho (by rw [strRow, List.getElem?_map, hlx]; rfl)
set_option maxRecDepth 100000 in
set_option maxHeartbeats 8000000 in
theorem implRawText_any (a : Option Addr) (cap n : Nat) (xs : List Shp) (w : World) (h : ShsL w a xs) (hx : xs.length = n) (hn : n ≤ 1048576) (hcap : n ≤ cap) (hm : fldSum xs ≤ 1048576) (ht : TabW w) :
    Calls Tryz.prog 12 #[.agg #[.slice a n cap]] w fun r w' => r = .returned (.string (sB (rawTextL xs))) ∧ Below w.heap.size w w' := by
  have HSs := Lib.hid h; have HX := Lib.hid hx; have HT := Lib.hid ht; clear h hx ht
  obtain ⟨iS, hiS, hs0, hs1, hs2⟩ := info_parts info_strT
  obtain ⟨ok, hok⟩ : ∃ ok, rawOk xs = ok := ⟨_, rfl⟩
  have hcall : ∀ W, ShsL W a xs → Calls Tryz.prog 29 #[.agg #[.slice a n cap]] W fun r w' => r = .returned (.bool ok) ∧ Below W.heap.size W w' := fun W hW => by
    have := implRawOk_any a cap n xs W hW HX.out hn hcap hm
    rw [hok] at this; exact this
  have HO := Lib.hid hok; clear hok
  cases ok
  · have hr : rawTextL xs = [] := by rw [rawTextL, HO.out]; rfl
    go_enter Tryz.func12, Tryz.ntmps12
    go_wp2_with fail
    refine (hcall _ (HSs.out.keep (by ((repeat (first | (with_reducible exact Below.refl _ _) | (with_reducible assumption) | (with_reducible refine Below.alloc ?_ ?_ _) | (with_reducible refine Below.setCell ?_ ?_ _) | (with_reducible refine Below.drew ?_) | (with_reducible refine below_setRow ?_ ?_ _) | (refine Below.trans ?_ (Below.mono (by assumption) ?_)))); all_goals (first | omega | (simp; done) | (simp; omega)))))).mono ?_
    rintro r w1 ⟨rfl, hb1⟩
    go_wp2
    go_ret
    exact ⟨ret_str (by rw [hr]), by ((repeat (first | (with_reducible exact Below.refl _ _) | (with_reducible assumption) | (with_reducible refine Below.alloc ?_ ?_ _) | (with_reducible refine Below.setCell ?_ ?_ _) | (with_reducible refine Below.drew ?_) | (with_reducible refine below_setRow ?_ ?_ _) | (refine Below.trans ?_ (Below.mono (by assumption) ?_)))); all_goals (first | omega | (simp; done) | (simp; omega)))⟩
  · have hr : rawTextL xs = txtL xs := by rw [rawTextL, HO.out]; rfl
    rw [hr]
    have HBb := Lib.hid (rawOk_val HO.out).txB
    have hn7 : n ≤ 7 := by have := HBb.out.n; have := HX.out; omega
    clear hr HO
    go_enter Tryz.func12, Tryz.ntmps12
    go_wp2_with fail
    refine (hcall _ (HSs.out.keep (by ((repeat (first | (with_reducible exact Below.refl _ _) | (with_reducible assumption) | (with_reducible refine Below.alloc ?_ ?_ _) | (with_reducible refine Below.setCell ?_ ?_ _) | (with_reducible refine Below.drew ?_) | (with_reducible refine below_setRow ?_ ?_ _) | (refine Below.trans ?_ (Below.mono (by assumption) ?_)))); all_goals (first | omega | (simp; done) | (simp; omega)))))).mono ?_
    rintro r w1 ⟨rfl, hb1⟩
    have hz1 := hb1.size
    try simp only [World.size_alloc, World.size_setCell, World.size_drew] at hz1
    have hb1b : Below w.heap.size w w1 := by ((repeat (first | (with_reducible exact Below.refl _ _) | (with_reducible assumption) | (with_reducible refine Below.alloc ?_ ?_ _) | (with_reducible refine Below.setCell ?_ ?_ _) | (with_reducible refine Below.drew ?_) | (with_reducible refine below_setRow ?_ ?_ _) | (refine Below.trans ?_ (Below.mono (by assumption) ?_)))); all_goals (first | omega | (simp; done) | (simp; omega)))
    have kA := box_new0 hb1
    have hBA := box_lt0 hb1
    try simp only [World.size_alloc, World.size_setCell, World.size_drew] at kA
    try simp only [World.size_alloc, World.size_setCell, World.size_drew] at hBA
    clear hb1; have hb1 := hb1b; clear hb1b
    have hT1 : Below w.heap.size w w1 := hb1
    have HS1 := Lib.hid (HSs.out.keep hT1).shs
    have HT1 := Lib.hid (HT.out.keep hT1)
    have kA0 := kA 0
    simp only [List.getElem?_toArray, List.getElem?_cons_zero] at kA0
    clear kA hcall hb1 HT HSs
    go_wp2_with fail
    go_loopw [3, 16] (fun v i wr => ∃ k : Nat, k ≤ n ∧ i = .int .i64 k ∧ wr.ownsRow w1.heap.size 9 1 v k (strRow ((xs.take k).map msgL)) ∧ Below w1.heap.size w1 wr) (fun _ i _ => n - (intOf i).toNat)
    case atStart => exact ⟨0, Nat.zero_le _, rfl, ⟨by simp [strRow], .inr ⟨w1.heap.size, 0, #[], rfl, Nat.le_refl _, heap_nth0 w1 _, Nat.le_refl _, Nat.zero_le _, rfl, rfl⟩⟩, by ((repeat (first | (with_reducible exact Below.refl _ _) | (with_reducible assumption) | (with_reducible refine Below.alloc ?_ ?_ _) | (with_reducible refine Below.setCell ?_ ?_ _) | (with_reducible refine Below.drew ?_) | (with_reducible refine below_setRow ?_ ?_ _) | (refine Below.trans ?_ (Below.mono (by assumption) ?_)))); all_goals (first | omega | (simp; done) | (simp; omega)))⟩
    case round =>
      obtain ⟨k, hk, rfl, ho, hb⟩ := hrel
      have hz := hb.size
      have HO := Lib.hid ho; clear ho
      by_cases hlt : k < n
      · obtain ⟨x, hx, hxm⟩ := at_lt (xs := xs) (k := k) (by rw [HX.out]; exact hlt)
        have hx14 := HBb.out.len x hxm
        have hml := HBb.out.msg hxm
        obtain ⟨hi0, hi1⟩ := HBb.out.id x hxm
        have HXk := Lib.hid hx; clear hx hxm
        obtain ⟨b, off, a', cap', rfl, hbl, c0, c1, hfs⟩ := Shs.at (HS1.out.keep hb) HXk.out
        have HF := Lib.hid hfs; clear hfs
        have hkn : (k : Int) < (n : Int) := by omega
        go_wp2_with fail
        obtain ⟨wo, hwo⟩ : ∃ wo : World, wo = wr := ⟨_, rfl⟩
        rw [← hwo] at HO hb hz hbl c0 c1 HF ⊢
        clear hwo
        go_loopw [6, 24] (fun v j wi => ∃ q : Nat, q ≤ x.flds.length ∧ j = .int .i64 q ∧ wi.ownsRow (wo.heap.size + 1) 9 1 v q (strRow ((x.flds.take q).map fieldL)) ∧ wi.heap[wo.heap.size]? = some (.cells #[.int .i64 x.id, .slice a' x.flds.length cap'] 40 (0, 0)) ∧ Below wo.heap.size wo wi) (fun _ j _ => x.flds.length - (intOf j).toNat)
        case atStart => exact ⟨0, Nat.zero_le _, rfl, ⟨by simp [strRow], .inr ⟨wo.heap.size + 1, 0, #[], rfl, Nat.le_refl _, hset_new (by simp), Nat.le_refl _, Nat.zero_le _, rfl, rfl⟩⟩, hset_alloc (hset_new rfl), by ((repeat (first | (with_reducible exact Below.refl _ _) | (with_reducible assumption) | (with_reducible refine Below.alloc ?_ ?_ _) | (with_reducible refine Below.setCell ?_ ?_ _) | (with_reducible refine Below.drew ?_) | (with_reducible refine below_setRow ?_ ?_ _) | (refine Below.trans ?_ (Below.mono (by assumption) ?_)))); all_goals (first | omega | (simp; done) | (simp; omega)))⟩
        case round =>
          obtain ⟨q, hq, rfl, ho, hM, hbi⟩ := hrel
          have hzi := hbi.size
          have hMl := box_lt hM
          have HOq := Lib.hid ho; have HM := Lib.hid hM; clear ho hM
          have hFi := Sl.keep HF.out hbi
          by_cases hlq : q < x.flds.length
          · obtain ⟨f, hf, hfm⟩ := at_lt (xs := x.flds) (k := q) hlq
            obtain ⟨b3, off3, rfl, hl3, d0, d1, d2, d3, d4⟩ := Flds.at hFi hf
            have HFk := Lib.hid hf
            obtain ⟨G, hG⟩ : ∃ G, fieldL f = G := ⟨_, rfl⟩
            have hft : ∀ W : World, TabW W → Calls Tryz.prog 30 #[.agg #[.int .i64 f.number, .int .i64 f.kind, .bool f.rep, .bool f.packed, .int .i64 f.msg]] W fun r w' => r = .returned (.string ⟨G.toArray⟩) ∧ Below W.heap.size W w' := fun W hW => by
              have := implFieldText_any f W hW
              rw [sB, hG] at this; exact this
            have HG := Lib.hid hG; clear hG hf hfm hFi
            have hqn : (q : Int) < (x.flds.length : Int) := by omega
            have hTi : Below w1.heap.size w1 wr := hb.trans (hbi.mono hb.size)
            go_wp2_with fail
            refine (hft _ (HT1.out.keep (by ((repeat (first | (with_reducible exact Below.refl _ _) | (with_reducible assumption) | (with_reducible refine Below.alloc ?_ ?_ _) | (with_reducible refine Below.setCell ?_ ?_ _) | (with_reducible refine Below.drew ?_) | (with_reducible refine below_setRow ?_ ?_ _) | (refine Below.trans ?_ (Below.mono (by assumption) ?_)))); all_goals (first | omega | (simp; done) | (simp; omega)))))).mono ?_
            rintro r w2 ⟨rfl, hb2⟩
            have hz2 := hb2.size
            simp only [World.size_alloc] at hz2
            have hb2' : Below wr.heap.size wr w2 := by ((repeat (first | (with_reducible exact Below.refl _ _) | (with_reducible assumption) | (with_reducible refine Below.alloc ?_ ?_ _) | (with_reducible refine Below.setCell ?_ ?_ _) | (with_reducible refine Below.drew ?_) | (with_reducible refine below_setRow ?_ ?_ _) | (refine Below.trans ?_ (Below.mono (by assumption) ?_)))); all_goals (first | omega | (simp; done) | (simp; omega)))
            have HO2 := Lib.hid (owns_below HOq.out hb2' (Nat.le_refl _))
            have hM2 := (hb2'.block wo.heap.size hMl).trans HM.out
            have HM2 := Lib.hid hM2
            have hMl2 := box_lt hM2
            have hTo : Below wo.heap.size wo w2 := hbi.trans (hb2'.mono hzi)
            clear hM2 d0 d1 d2 d3 d4 hl3 hft HOq HM hMl hb2
            have HA := Lib.hid (World.ownsRow.alloc HO2.out (.cells #[.string ⟨G.toArray⟩] 9 (0, 0)))
            go_wp2_with (first | (at_builtin; refine wpList_append_lies _ rfl _ _ 36 rfl (wo.heap.size + 1) 9 iS _ 1 16 Tryz.underlying36 hiS hs0 hs1 hs2 rfl (by decide) _ q (strRow ((x.flds.take q).map fieldL)) rfl HA.out ⟨w2.heap.size, 0, none⟩ 1 1 [.string ⟨G.toArray⟩] rfl rfl (World.news_of_block (cs := #[.string ⟨G.toArray⟩]) (t := 9) (fr := (0, 0)) (hset_new rfl)) (by simp [Value.oneCell']) (by omega) (by unfold maxLen; omega) (by omega) (by simp; omega) _ rfl ?_; intro gn capn w11 hown11 hgr11 hat11 hlt11; have hgb : Below (wo.heap.size + 1) w2 w11 := below_grown ((Below.refl _ _).alloc (by omega) _) hgr11 (fun b e => (HA.out.lt b e).1) (by simp; omega); have HO11 := Lib.hid hown11; clear hown11 hgr11 hat11))
            have hrow : strRow ((x.flds.take q).map fieldL) ++ [.string ⟨G.toArray⟩] = strRow ((x.flds.take (q + 1)).map fieldL) := by
              rw [List.take_add_one, HFk.out, Option.toList_some, List.map_append, List.map_cons, List.map_nil, strRow, strRow, List.map_append, List.map_cons, List.map_nil, ← HG.out]
            rw [hrow] at HO11
            go_roundw
            case rel => exact ⟨q + 1, by omega, by go_num, HO11.out, (hgb.block _ (by omega)).trans HM2.out, hTo.trans (hgb.mono (by omega))⟩
            case measure => simp [intOf]; omega
          · have hqe : q = x.flds.length := by omega
            subst hqe
            have hTi : Below w1.heap.size w1 wr := hb.trans (hbi.mono hb.size)
            have kM := box_cells HM.out; have kM0 := kM 0
            simp only [List.getElem?_toArray, List.getElem?_cons_zero] at kM0
            have hD := Lib.itoa_length_le x.id hi0 hi1
            obtain ⟨D, hDe⟩ : ∃ D, Lib.itoa x.id = D := ⟨_, rfl⟩
            have hdig : ∀ W : World, TabW W → Calls Tryz.prog 31 #[.int .i64 x.id] W fun r w' => r = .returned (.string ⟨D.toArray⟩) ∧ Below W.heap.size W w' := fun W hW => by
              have := implDigits_any x.id W hW hi0 hi1
              rw [numB, hDe] at this; exact this
            rw [hDe] at hD
            have HDE := Lib.hid hDe
            have hJl := flds_len hx14
            obtain ⟨J, hJ⟩ : ∃ J, Lib.join (x.flds.map fieldL) [44] = J := ⟨_, rfl⟩
            have HOq' := HOq.out
            rw [List.take_of_length_le (Nat.le_refl _)] at HOq'
            have hjoin : ∀ (W : World) (v : Value), W.ownsRow (wo.heap.size + 1) 9 1 v x.flds.length (strRow (x.flds.map fieldL)) → Calls Tryz.prog 32 #[v, .string ⟨#[44]⟩] W fun r w' => r = .returned (.string ⟨J.toArray⟩) ∧ Below W.heap.size W w' := fun W v hv => by
              have := joinRow_any (wo.heap.size + 1) v x.flds.length (x.flds.map fieldL) [44] W hv (by simp) (by omega) (by omega)
              rw [hJ] at this; exact this
            rw [hJ] at hJl
            have HQ := Lib.hid HOq'; clear HOq' HOq
            have HMG := Lib.hid (show msgL x = D ++ [58] ++ J by rw [msgL, hDe, hJ])
            clear hDe hJ
            have e1 : ¬ 9223372036854775807 < D.length + 1 := by omega
            have e2 : ¬ 9223372036854775807 < D.length + 1 + J.length := by omega
            have hcat : ((⟨D.toArray⟩ : ByteArray) ++ ⟨[58].toArray⟩) ++ ⟨J.toArray⟩ = ⟨(D ++ [58] ++ J).toArray⟩ := by rw [bytes_cat, bytes_cat]
            obtain ⟨Z, hZ⟩ : ∃ Z, D ++ [58] ++ J = Z := ⟨_, rfl⟩
            rw [hZ] at hcat
            have HZ := Lib.hid (HMG.out.trans hZ); clear hZ HMG
            go_wp2_with fail
            refine (hdig _ (HT1.out.keep hTi)).mono ?_
            rintro r w2 ⟨rfl, hb2⟩
            have hTo2 : Below wo.heap.size wo w2 := hbi.trans (hb2.mono hzi)
            have HQ2 := Lib.hid (owns_below HQ.out hb2 (Nat.le_refl _)); clear HQ hdig
            go_wp2_with fail
            refine (hjoin _ _ HQ2.out).mono ?_
            rintro r w3 ⟨rfl, hb3⟩
            have hTo3 : Below wo.heap.size wo w3 := hTo2.trans (hb3.mono hTo2.size)
            have hz3 := hTo3.size
            have HW3 := Lib.hid (owns_below HO.out hTo3 (Nat.le_refl _)); clear hjoin HQ2 hTo2 hb2 hb3
            have HA := Lib.hid (World.ownsRow.alloc HW3.out (.cells #[.string ⟨Z.toArray⟩] 9 (0, 0)))
            go_wp2_with (first | (at_builtin; refine wpList_append_lies _ rfl _ _ 36 rfl w1.heap.size 9 iS _ 1 16 Tryz.underlying36 hiS hs0 hs1 hs2 rfl (by decide) _ k (strRow ((xs.take k).map msgL)) rfl HA.out ⟨w3.heap.size, 0, none⟩ 1 1 [.string ⟨Z.toArray⟩] rfl rfl (World.news_of_block (cs := #[.string ⟨Z.toArray⟩]) (t := 9) (fr := (0, 0)) (hset_new rfl)) (by simp [Value.oneCell']) (by omega) (by unfold maxLen; omega) (by omega) (by simp; omega) _ rfl ?_; intro gn capn w11 hown11 hgr11 hat11 hlt11; have hgb : Below w1.heap.size w3 w11 := below_grown ((Below.refl _ _).alloc (by omega) _) hgr11 (fun b e => (HA.out.lt b e).1) (by simp; omega); have HO11 := Lib.hid hown11; clear hown11 hgr11 hat11))
            have hrow : strRow ((xs.take k).map msgL) ++ [.string ⟨Z.toArray⟩] = strRow ((xs.take (k + 1)).map msgL) := by
              rw [List.take_add_one, HXk.out, Option.toList_some, List.map_append, List.map_cons, List.map_nil, strRow, strRow, List.map_append, List.map_cons, List.map_nil, HZ.out]
            rw [hrow] at HO11
            go_roundw
            case rel => exact ⟨k + 1, by omega, by go_num, HO11.out, (hb.trans (hTo3.mono hz)).trans (hgb.mono (Nat.le_refl _))⟩
            case measure => simp [intOf]; omega
      · have hke : k = n := by omega
        subst hke
        have hjl := HBb.out.txt k
        rw [List.take_of_length_le (by rw [HX.out]; exact Nat.le_refl _)] at hjl HO
        have hjoin : ∀ (W : World) (v : Value), W.ownsRow w1.heap.size 9 1 v k (strRow (xs.map msgL)) → Calls Tryz.prog 32 #[v, .string ⟨#[59]⟩] W fun r w' => r = .returned (.string (sB (txtL xs))) ∧ Below W.heap.size W w' := fun W v hv =>
          joinRow_any w1.heap.size v k (xs.map msgL) [59] W hv (by simpa using HX.out) (by omega) (by simp only [txtL] at hjl; omega)
        have hTi : Below w.heap.size w wr := hT1.trans (hb.mono hT1.size)
        go_wp2_with fail
        refine (hjoin _ _ HO.out).mono ?_
        rintro r w2 ⟨rfl, hb2⟩
        go_wp2
        go_ret
        exact ⟨rfl, hTi.trans (hb2.mono hTi.size)⟩
def readAll : List (List UInt8) → Option (List Fld)
  | [] => some []
  | x :: r => if (readS x).2 = true then (readAll r).map ((readS x).1 :: ·) else none
def wordsS (b : List UInt8) : List (List UInt8) := if b = [] then [] else partsL 44 b
def msgS (x : List UInt8) : Option Shp := match partsL 58 x with
  | [a, b] => (readAll (wordsS b)).map fun fs => ⟨numD a, fs⟩
  | _ => none
def rawsS : List (List UInt8) → Option (List Shp)
  | [] => some []
  | x :: r => match msgS x with
    | some m => (rawsS r).map (m :: ·)
    | none => none
def rawS (l : List UInt8) : List Shp × Bool := if l = [] then ([], true) else if 4000 < l.length then ([], false) else match rawsS (partsL 59 l) with
  | some xs => if rawTextL xs = l then (xs, true) else ([], false)
  | none => ([], false)
def wordsI (b : List UInt8) : List (List UInt8) := if b = [] then [] else splitL 9 b 44
def msgI (x : List UInt8) : Shp := ⟨numD (Lib.cut x [58]).1, (wordsI (Lib.cut x [58]).2.1).map fun t => (readI t).1⟩
def rawI (l : List UInt8) : List Shp × Bool := if l = [] then ([], true) else if rawTextL ((splitL 7 l 59).map msgI) = l then ((splitL 7 l 59).map msgI, true) else ([], false)
theorem join_free {P : UInt8 → Prop} {c : UInt8} (hc : P c) : ∀ {ws : List (List UInt8)}, (∀ w ∈ ws, ∀ b ∈ w, P b) → ∀ b ∈ Lib.join ws [c], P b
  | [], _, b, hb => by simp [Lib.join] at hb
  | [x], h, b, hb => by rw [Lib.join_one] at hb; exact h x (List.mem_cons_self ..) b hb
  | x :: y :: r, h, b, hb => by
    rw [join_cons2] at hb
    rcases List.mem_append.1 hb with hb | hb
    · exact h x (List.mem_cons_self ..) b hb
    · rcases List.mem_cons.1 hb with rfl | hb
      · exact hc
      · exact join_free hc (fun w hw => h w (List.mem_cons_of_mem _ hw)) b hb
theorem fieldL_free {f : Fld} (h : fieldOkT f = true) : ∀ b ∈ fieldL f, b ≠ 44 ∧ b ≠ 58 ∧ b ≠ 59 := by
  rw [fieldL_join h]
  refine join_free (P := fun b => b ≠ 44 ∧ b ≠ 58 ∧ b ≠ 59) (by decide) fun w hw b hb => ?_
  obtain ⟨h1, h2, h3⟩ := fwords_free h w hw b hb
  refine ⟨?_, ?_, ?_⟩ <;> rintro rfl
  · exact absurd h1 (by decide)
  · exact h2 (by decide)
  · exact h3 (by decide)
theorem RawVal.fldT {xs : List Shp} (h : RawVal xs) {x : Shp} (hx : x ∈ xs) {f : Fld} (hf : f ∈ x.flds) : fieldOkT f = true := by
  obtain ⟨i, hi⟩ := List.getElem?_of_mem hx
  obtain ⟨k, hk⟩ := List.getElem?_of_mem hf
  have h0 := h.fld i x hi k f hk
  unfold fldC at h0
  split at h0
  · simp at h0
  · rename_i h1
    split at h0
    · simp at h0
    · split at h0
      · simp at h0
      · rename_i h3
        split at h0
        · simp at h0
        · split at h0
          · simp at h0
          · rename_i h5
            have h1' : numOk f.number = true := by simpa using h1
            have h3' : inB f.kind 1 8 = true := by simpa using h3
            have h5' : refBad xs f = false := by simpa using h5
            simp only [numOk, Bool.and_eq_true] at h1'
            simp only [fieldOkT, h1'.1, h3', Bool.true_and]
            unfold refBad at h5'
            by_cases h8 : f.kind = 8
            · rw [if_pos h8] at h5' ⊢
              simp only [Bool.not_eq_false', hasId, List.any_eq_true] at h5'
              obtain ⟨y, hy, he⟩ := h5'
              obtain ⟨j, hj⟩ := List.getElem?_of_mem hy
              have h9 := (msgC_id (h.msg j y hj)).1
              have e : y.id = f.msg := by simpa using he
              rw [e] at h9; exact h9
            · rw [if_neg h8] at h5' ⊢
              simpa using h5'
theorem RawVal.id99 {xs : List Shp} (h : RawVal xs) {x : Shp} (hx : x ∈ xs) : 1 ≤ x.id ∧ x.id ≤ 99 := by
  obtain ⟨i, hi⟩ := List.getElem?_of_mem hx
  have := (msgC_id (h.msg i x hi)).1
  simpa [inB] using this
theorem body_free {fs : List Fld} (h : ∀ f ∈ fs, fieldOkT f = true) : ∀ b ∈ Lib.join (fs.map fieldL) [44], b ≠ 58 ∧ b ≠ 59 := by
  refine join_free (P := fun b => b ≠ 58 ∧ b ≠ 59) (by decide) fun w hw b hb => ?_
  obtain ⟨f, hf, rfl⟩ := List.mem_map.1 hw
  exact (fieldL_free (h f hf) b hb).2
theorem itoa_no {n : Int} (h : 0 ≤ n) : ∀ b ∈ Lib.itoa n, b ≠ 58 ∧ b ≠ 59 := fun b hb => by
  have := itoa_free h b hb
  refine ⟨?_, ?_⟩ <;> rintro rfl <;> exact absurd this.2 (by decide)
theorem msgL_cut (x : Shp) : msgL x = Lib.itoa x.id ++ 58 :: Lib.join (x.flds.map fieldL) [44] := by simp [msgL]
theorem msgL_free {x : Shp} (h0 : 0 ≤ x.id) (h : ∀ f ∈ x.flds, fieldOkT f = true) : ∀ b ∈ msgL x, b ≠ 59 := by
  rw [msgL_cut]
  intro b hb
  rcases List.mem_append.1 hb with hb | hb
  · exact (itoa_no h0 b hb).2
  · rcases List.mem_cons.1 hb with rfl | hb
    · decide
    · exact (body_free h b hb).2
theorem body_nil {fs : List Fld} (h : ∀ f ∈ fs, fieldOkT f = true) : Lib.join (fs.map fieldL) [44] = [] ↔ fs = [] := by
  constructor
  · intro e
    match fs, h with
    | [], _ => rfl
    | [f], h =>
      have := fieldL_short (h f (List.mem_cons_self ..))
      rw [List.map_cons, List.map_nil, Lib.join_one] at e
      rw [e] at this; simp at this
    | f :: g :: r, h =>
      rw [List.map_cons, List.map_cons, join_cons2] at e
      have := congrArg List.length e
      simp at this
  · rintro rfl; rfl
theorem readAll_back : ∀ {fs : List Fld}, (∀ f ∈ fs, fieldOkT f = true) → readAll (fs.map fieldL) = some fs
  | [], _ => rfl
  | f :: r, h => by
    rw [List.map_cons, readAll, readS_of (h f (List.mem_cons_self ..)), if_pos rfl, readAll_back fun g hg => h g (List.mem_cons_of_mem _ hg)]
    rfl
theorem wordsS_back {fs : List Fld} (h : ∀ f ∈ fs, fieldOkT f = true) : wordsS (Lib.join (fs.map fieldL) [44]) = fs.map fieldL := by
  rw [wordsS]
  split
  · rename_i e; rw [(body_nil h).1 e]; rfl
  · rename_i e
    exact partsL_join (fun e' => e (by rw [e']; rfl)) fun w hw b hb => by
      obtain ⟨f, hf, rfl⟩ := List.mem_map.1 hw
      exact (fieldL_free (h f hf) b hb).1
theorem wordsI_back {fs : List Fld} (h : ∀ f ∈ fs, fieldOkT f = true) (hl : fs.length ≤ 8) : wordsI (Lib.join (fs.map fieldL) [44]) = fs.map fieldL := by
  have h0 := wordsS_back h
  rw [wordsI]
  rw [wordsS] at h0
  split
  · rename_i e; rw [if_pos e] at h0; exact h0
  · rename_i e
    rw [if_neg e] at h0
    have h1 := partsL_len 44 (Lib.join (fs.map fieldL) [44])
    rw [h0, List.length_map] at h1
    rw [splitL]
    obtain ⟨K, hK⟩ : ∃ K, min 9 ((Lib.join (fs.map fieldL) [44]).length + 1) - 1 = K := ⟨_, rfl⟩
    rw [hK]
    exact splitK_join (fun e' => e (by rw [e']; rfl)) (by rw [List.length_map]; omega) fun w hw b hb => by
      obtain ⟨f, hf, rfl⟩ := List.mem_map.1 hw
      exact (fieldL_free (h f hf) b hb).1
theorem numD_id {n : Int} (h0 : 1 ≤ n) (h1 : n ≤ 99) : numD (Lib.itoa n) = n := by rw [itoa_nat (by omega), numD_dec (by omega)]; omega
theorem msgS_back {x : Shp} (hid : 1 ≤ x.id ∧ x.id ≤ 99) (h : ∀ f ∈ x.flds, fieldOkT f = true) : msgS (msgL x) = some x := by
  rw [msgS, msgL_cut, partsL_cut fun b hb => (itoa_no (by omega) b hb).1, partsL_free fun b hb => (body_free h b hb).1]
  simp only
  rw [wordsS_back h, readAll_back h, numD_id hid.1 hid.2]
  rfl
theorem cut_back {x : Shp} (hid : 1 ≤ x.id ∧ x.id ≤ 99) : Lib.cut (msgL x) [58] = (Lib.itoa x.id, Lib.join (x.flds.map fieldL) [44], true) := by
  rw [msgL_cut, Lib.cut, index_cut fun b hb => (itoa_no (by omega) b hb).1, if_pos (by omega)]
  simp
theorem map_readI {fs : List Fld} (h : ∀ f ∈ fs, fieldOkT f = true) : (fs.map fieldL).map (fun t => (readI t).1) = fs := by
  induction fs with
  | nil => rfl
  | cons f r ih => rw [List.map_cons, List.map_cons, readI_of (h f (List.mem_cons_self ..)), ih fun g hg => h g (List.mem_cons_of_mem _ hg)]
theorem msgI_back {x : Shp} (hid : 1 ≤ x.id ∧ x.id ≤ 99) (h : ∀ f ∈ x.flds, fieldOkT f = true) (hl : x.flds.length ≤ 8) : msgI (msgL x) = x := by
  rw [msgI, cut_back hid]
  simp only
  rw [wordsI_back h hl, map_readI h, numD_id hid.1 hid.2]
theorem rawsS_back : ∀ {xs : List Shp}, (∀ x ∈ xs, 1 ≤ x.id ∧ x.id ≤ 99) → (∀ x ∈ xs, ∀ f ∈ x.flds, fieldOkT f = true) → rawsS (xs.map msgL) = some xs
  | [], _, _ => rfl
  | x :: r, h1, h2 => by
    rw [List.map_cons, rawsS, msgS_back (h1 x (List.mem_cons_self ..)) (h2 x (List.mem_cons_self ..))]
    simp only
    rw [rawsS_back (fun y hy => h1 y (List.mem_cons_of_mem _ hy)) fun y hy => h2 y (List.mem_cons_of_mem _ hy)]
    rfl
theorem map_msgI : ∀ {xs : List Shp}, (∀ x ∈ xs, 1 ≤ x.id ∧ x.id ≤ 99) → (∀ x ∈ xs, ∀ f ∈ x.flds, fieldOkT f = true) → (∀ x ∈ xs, x.flds.length ≤ 8) → (xs.map msgL).map msgI = xs
  | [], _, _, _ => rfl
  | x :: r, h1, h2, h3 => by
    rw [List.map_cons, List.map_cons, msgI_back (h1 x (List.mem_cons_self ..)) (h2 x (List.mem_cons_self ..)) (h3 x (List.mem_cons_self ..)), map_msgI (fun y hy => h1 y (List.mem_cons_of_mem _ hy)) (fun y hy => h2 y (List.mem_cons_of_mem _ hy)) fun y hy => h3 y (List.mem_cons_of_mem _ hy)]
theorem txtL_ne {xs : List Shp} (h : xs ≠ []) : txtL xs ≠ [] := by
  intro e
  match xs, h with
  | [x], _ => rw [txtL, List.map_cons, List.map_nil, Lib.join_one, msgL_cut] at e; have := congrArg List.length e; simp at this
  | x :: y :: r, _ => rw [txtL, List.map_cons, List.map_cons, join_cons2] at e; have := congrArg List.length e; simp at this
theorem partsL_txt {xs : List Shp} (hv : RawVal xs) (hne : xs ≠ []) : partsL 59 (txtL xs) = xs.map msgL :=
  partsL_join (fun e => hne (by simpa using e)) fun w hw b hb => by
    obtain ⟨x, hx, rfl⟩ := List.mem_map.1 hw
    exact msgL_free (by have := (hv.id99 hx); omega) (fun f hf => hv.fldT hx hf) b hb
theorem splitL_txt {xs : List Shp} (hv : RawVal xs) (hne : xs ≠ []) : splitL 7 (txtL xs) 59 = xs.map msgL := by
  have h1 := partsL_len 59 (txtL xs)
  rw [partsL_txt hv hne, List.length_map] at h1
  have h2 := hv.n
  rw [splitL]
  obtain ⟨K, hK⟩ : ∃ K, min 7 ((txtL xs).length + 1) - 1 = K := ⟨_, rfl⟩
  rw [hK]
  exact splitK_join (fun e => hne (by simpa using e)) (by rw [List.length_map]; omega) fun w hw b hb => by
    obtain ⟨x, hx, rfl⟩ := List.mem_map.1 hw
    exact msgL_free (by have := (hv.id99 hx); omega) (fun f hf => hv.fldT hx hf) b hb
theorem msgL_short {xs : List Shp} (hv : RawVal xs) {x : Shp} (hx : x ∈ xs) : (msgL x).length ≤ 300 := by
  have h1 := join_len [44] 34 (x.flds.map fieldL) (by intro y hy; obtain ⟨f, hf, rfl⟩ := List.mem_map.1 hy; exact (fieldL_short (hv.fldT hx hf)).2)
  simp only [List.length_map, List.length_cons, List.length_nil] at h1
  have h2 := hv.len hx
  have h3 := hv.id99 hx
  have h4 : (Lib.itoa x.id).length ≤ 2 := by rw [itoa_nat (by omega)]; exact dec_lenT 2 _ (by omega) (by omega)
  rw [msgL_cut, List.length_append, List.length_cons]
  omega
theorem txtL_short {xs : List Shp} (hv : RawVal xs) : (txtL xs).length ≤ 4000 := by
  have h1 := join_len [59] 300 (xs.map msgL) (by intro y hy; obtain ⟨x, hx, rfl⟩ := List.mem_map.1 hy; exact msgL_short hv hx)
  simp only [List.length_map, List.length_cons, List.length_nil] at h1
  have := hv.n
  simp only [txtL]
  omega
theorem rawTextL_ok {xs : List Shp} (h : rawOk xs = true) : rawTextL xs = txtL xs := by rw [rawTextL, if_pos h]
theorem rawS_of {xs : List Shp} (h : rawOk xs = true) : rawS (txtL xs) = (xs, true) := by
  by_cases hne : xs = []
  · subst hne; rfl
  · have hv := rawOk_val h
    rw [rawS, if_neg (txtL_ne hne), if_neg (by have := txtL_short hv; omega), partsL_txt hv hne, rawsS_back (fun x hx => hv.id99 hx) fun x hx f hf => hv.fldT hx hf]
    simp only
    rw [rawTextL_ok h, if_pos rfl]
theorem rawI_of {xs : List Shp} (h : rawOk xs = true) : rawI (txtL xs) = (xs, true) := by
  by_cases hne : xs = []
  · subst hne; rfl
  · have hv := rawOk_val h
    rw [rawI, if_neg (txtL_ne hne), splitL_txt hv hne, map_msgI (fun x hx => hv.id99 hx) (fun x hx f hf => hv.fldT hx hf) (fun x hx => hv.len hx), rawTextL_ok h, if_pos rfl]
theorem rawOk_of_ne {xs : List Shp} {l : List UInt8} (h : rawTextL xs = l) (hl : l ≠ []) : rawOk xs = true ∧ txtL xs = l := by
  rw [rawTextL] at h
  split at h
  · rename_i h0; exact ⟨h0, h⟩
  · exact absurd h.symm hl
theorem rawS_not {l : List UInt8} (hl : l ≠ []) (h : ∀ xs, rawOk xs = true → txtL xs ≠ l) : rawS l = ([], false) := by
  rw [rawS, if_neg hl]
  split
  · rfl
  · split
    · rw [if_neg]; intro e; obtain ⟨h1, h2⟩ := rawOk_of_ne e hl; exact h _ h1 h2
    · rfl
theorem rawI_not {l : List UInt8} (hl : l ≠ []) (h : ∀ xs, rawOk xs = true → txtL xs ≠ l) : rawI l = ([], false) := by
  rw [rawI, if_neg hl, if_neg]
  intro e; obtain ⟨h1, h2⟩ := rawOk_of_ne e hl; exact h _ h1 h2
theorem raw_same (l : List UInt8) : rawI l = rawS l := by
  by_cases hl : l = []
  · subst hl; rfl
  by_cases h : ∃ xs, rawOk xs = true ∧ txtL xs = l
  · obtain ⟨xs, hx, rfl⟩ := h; rw [rawI_of hx, rawS_of hx]
  · have h' : ∀ xs, rawOk xs = true → txtL xs ≠ l := fun xs hx e => h ⟨xs, hx, e⟩
    rw [rawI_not hl h', rawS_not hl h']
theorem rawI_val {l : List UInt8} : rawOk (rawI l).1 = true := by
  by_cases hl : l = []
  · subst hl; rfl
  by_cases h : ∃ xs, rawOk xs = true ∧ txtL xs = l
  · obtain ⟨xs, hx, rfl⟩ := h; rw [rawI_of hx]; exact hx
  · rw [rawI_not hl fun xs hx e => h ⟨xs, hx, e⟩]; rfl
theorem partsL_each (c : UInt8) : ∀ (l : List UInt8), ((partsL c l).map List.length).sum + (partsL c l).length = l.length + 1
  | [] => by simp [partsL]
  | b :: r => by
    have ih := partsL_each c r
    unfold partsL
    split
    · simp; omega
    · split
      · rename_i e; rw [e] at ih; simp at ih
      · rename_i w ws e; rw [e] at ih; simp at ih ⊢; omega
theorem mem_le_sum : ∀ {L : List Nat} {n : Nat}, n ∈ L → n ≤ L.sum
  | [], n, h => by cases h
  | m :: L, n, h => by
    rw [List.sum_cons]
    rcases List.mem_cons.1 h with rfl | h
    · omega
    · have := mem_le_sum h; omega
theorem partsL_le {c : UInt8} {l x : List UInt8} (h : x ∈ partsL c l) : x.length ≤ l.length := by
  have h1 := partsL_each c l
  have h2 : x.length ≤ ((partsL c l).map List.length).sum := mem_le_sum (List.mem_map_of_mem h)
  have h3 : 1 ≤ (partsL c l).length := by cases e : partsL c l with | nil => rw [e] at h; cases h | cons => simp
  omega
theorem readAll_len : ∀ {ws : List (List UInt8)} {fs : List Fld}, readAll ws = some fs → fs.length = ws.length
  | [], fs, h => by simp [readAll] at h; subst h; rfl
  | x :: r, fs, h => by
    rw [readAll] at h
    split at h
    · obtain ⟨gs, hg, rfl⟩ := Option.map_eq_some_iff.1 h
      simp [readAll_len hg]
    · cases h
theorem wordsS_len (b : List UInt8) : (wordsS b).length ≤ b.length + 1 := by
  rw [wordsS]; split
  · simp
  · exact partsL_len 44 b
theorem msgS_len {x : List UInt8} {m : Shp} (h : msgS x = some m) : m.flds.length ≤ x.length := by
  rw [msgS] at h
  split at h
  · rename_i a b e
    obtain ⟨fs, hf, rfl⟩ := Option.map_eq_some_iff.1 h
    have h1 := partsL_each 58 x
    rw [e] at h1
    have h2 := readAll_len hf
    have h3 := wordsS_len b
    simp at h1 ⊢
    omega
  · cases h
theorem rawsS_len : ∀ {ws : List (List UInt8)} {xs : List Shp}, rawsS ws = some xs → xs.length = ws.length ∧ fldSum xs ≤ (ws.map List.length).sum
  | [], xs, h => by simp [rawsS] at h; subst h; exact ⟨rfl, Nat.le_refl _⟩
  | x :: r, xs, h => by
    rw [rawsS] at h
    split at h
    · rename_i m hm
      obtain ⟨ys, hy, rfl⟩ := Option.map_eq_some_iff.1 h
      obtain ⟨h1, h2⟩ := rawsS_len hy
      have h3 := msgS_len hm
      simp only [fldSum] at h2 ⊢
      simp; omega
    · cases h
theorem rawsS_size {l : List UInt8} {xs : List Shp} (h : rawsS (partsL 59 l) = some xs) : xs.length ≤ l.length + 1 ∧ fldSum xs ≤ l.length := by
  obtain ⟨h1, h2⟩ := rawsS_len h
  have h3 := partsL_each 59 l
  have h4 := partsL_len 59 l
  have h5 : 1 ≤ (partsL 59 l).length := by cases e : partsL 59 l with | nil => exact absurd e (partsL_ne _ _) | cons => simp
  omega
theorem splitL_le {n : Nat} {c : UInt8} {l x : List UInt8} (h : x ∈ splitL n l c) : x.length ≤ l.length := splitK_len [c] _ l x h
theorem splitL_num {n : Nat} {c : UInt8} {l : List UInt8} (hn : 1 ≤ n) : (splitL n l c).length ≤ n := by
  have := splitK_num [c] (min n (l.length + 1) - 1) l
  rw [splitL]; omega
theorem wordsI_num (b : List UInt8) : (wordsI b).length ≤ 9 := by
  rw [wordsI]; split
  · simp
  · exact splitL_num (by omega)
theorem wordsI_le {b x : List UInt8} (h : x ∈ wordsI b) : x.length ≤ b.length := by
  rw [wordsI] at h; split at h
  · cases h
  · exact splitL_le h
theorem cut_le (x : List UInt8) : (Lib.cut x [58]).1.length ≤ x.length ∧ (Lib.cut x [58]).2.1.length ≤ x.length := by
  rw [Lib.cut]; split
  · simp; omega
  · simp
theorem msgI_len (x : List UInt8) : (msgI x).flds.length ≤ 9 := by
  rw [msgI, List.length_map]; exact wordsI_num _
theorem rawsI_size (l : List UInt8) : ((splitL 7 l 59).map msgI).length ≤ 7 ∧ fldSum ((splitL 7 l 59).map msgI) ≤ 1048576 := by
  have h1 : (splitL 7 l 59).length ≤ 7 := splitL_num (by omega)
  refine ⟨by rw [List.length_map]; exact h1, ?_⟩
  have : ∀ ws : List (List UInt8), fldSum (ws.map msgI) ≤ 9 * ws.length := fun ws => by
    induction ws with
    | nil => simp [fldSum]
    | cons x r ih => have := msgI_len x; simp only [fldSum, List.map_cons, List.sum_cons, List.length_cons] at ih ⊢; omega
  have := this (splitL 7 l 59)
  omega
set_option maxHeartbeats 2000000 in
theorem eqRawMsg_same (id : Int) (fs : List Fld) (n : Nat) (a a' : Option Addr) (cap cap' : Nat) (w : World) (h : Flds w a fs) (h' : Flds w a' fs) (hx : fs.length = n) (hn : n ≤ 1048576) :
    Calls Tryz.prog 44 #[.agg #[.int .i64 id, .slice a n cap], .agg #[.int .i64 id, .slice a' n cap']] w fun r w' => r = .returned (.bool true) ∧ Below w.heap.size w w' := by
  have HX := Lib.hid hx; clear hx
  have HS1 := Lib.hid h; clear h
  have HS2 := Lib.hid h'; clear h'
  go_enter Tryz.func44, Tryz.ntmps44
  go_wp2_with fail
  refine (eqRawFieldS_any _ _ _ _ _ _ fs fs _ (Sl.keep HS1.out (by ((repeat (first | (with_reducible exact Below.refl _ _) | (with_reducible assumption) | (with_reducible refine Below.alloc ?_ ?_ _) | (with_reducible refine Below.setCell ?_ ?_ _) | (with_reducible refine Below.drew ?_) | (with_reducible refine below_setRow ?_ ?_ _) | (refine Below.trans ?_ (Below.mono (by assumption) ?_)))); all_goals (first | omega | (simp; done) | (simp; omega))))) (Sl.keep HS2.out (by ((repeat (first | (with_reducible exact Below.refl _ _) | (with_reducible assumption) | (with_reducible refine Below.alloc ?_ ?_ _) | (with_reducible refine Below.setCell ?_ ?_ _) | (with_reducible refine Below.drew ?_) | (with_reducible refine below_setRow ?_ ?_ _) | (refine Below.trans ?_ (Below.mono (by assumption) ?_)))); all_goals (first | omega | (simp; done) | (simp; omega))))) HX.out HX.out hn hn).mono ?_
  rintro r w1 ⟨rfl, hb1⟩
  go_wp2
  go_ret
  exact ⟨rfl, by ((repeat (first | (with_reducible exact Below.refl _ _) | (with_reducible assumption) | (with_reducible refine Below.alloc ?_ ?_ _) | (with_reducible refine Below.setCell ?_ ?_ _) | (with_reducible refine Below.drew ?_) | (with_reducible refine below_setRow ?_ ?_ _) | (refine Below.trans ?_ (Below.mono (by assumption) ?_)))); all_goals (first | omega | (simp; done) | (simp; omega)))⟩
set_option maxHeartbeats 2000000 in
theorem eqRawMsgS_same (a a' : Option Addr) (cap cap' n : Nat) (xs : List Shp) (w : World) (h : Shs w a xs) (h' : Shs w a' xs) (hx : xs.length = n) (hn : n ≤ 1048576) (hm : fldSum xs ≤ 1048576) :
    Calls Tryz.prog 24 #[.slice a n cap, .slice a' n cap'] w fun r w' => r = .returned (.bool true) ∧ Below w.heap.size w w' := by
  have HX := Lib.hid hx; clear hx
  go_enter Tryz.func24, Tryz.ntmps24
  go_wp2
  go_loopw [4, 5] (fun t i wr => ∃ k : Nat, k ≤ n ∧ i = .int .i64 k ∧ t = .bool false ∧ Below w.heap.size w wr) (fun _ i _ => n - (intOf i).toNat)
  case atStart => exact ⟨0, Nat.zero_le _, rfl, rfl, Below.refl _ _⟩
  case round =>
    obtain ⟨k, hk, rfl, rfl, hb⟩ := hrel
    have hz := hb.size
    by_cases hlt : k < n
    · obtain ⟨e, he, _⟩ := at_lt (xs := xs) (k := k) (by rw [HX.out]; exact hlt)
      have HE := Lib.hid he
      have hne := Nat.le_trans (fldSum_ge he) hm
      obtain ⟨b, off, a1, cap1, rfl, hlb, c0, c1, hs1⟩ := h.below hb (Nat.le_refl _) k e he
      obtain ⟨b', off', a2, cap2, rfl, hlb', d0, d1, hs2⟩ := h'.below hb (Nat.le_refl _) k e he
      clear he
      have HS1 := Lib.hid hs1; clear hs1
      have HS2 := Lib.hid hs2; clear hs2
      go_wp2_with fail
      (refine wp_region_ext (by kernel_rfl) (by kernel_rfl) ?_; (repeat (go_big_quiet_step (first | (go_at_call 44; refine Calls.ext_of (eqRawMsg_same _ _ _ _ _ _ _ _ (Sl.keep HS1.out (World.ext_below _ _)) (Sl.keep HS2.out (World.ext_below _ _)) rfl hne))))); refine wpQuiet_nil ?_; intro w1 hb1; obtain ⟨hc1, hf1⟩ := bcell hb1; have hz1 := hb1.size; (try simp only [World.size_alloc, World.size_setCell, World.size_drew] at hz1))
      go_wp2
      go_roundw
      case rel => exact ⟨k + 1, by omega, by go_num, rfl, by ((repeat (first | (with_reducible exact Below.refl _ _) | (with_reducible assumption) | (with_reducible refine Below.alloc ?_ ?_ _) | (with_reducible refine Below.setCell ?_ ?_ _) | (with_reducible refine Below.drew ?_) | (with_reducible refine below_setRow ?_ ?_ _) | (refine Below.trans ?_ (Below.mono (by assumption) ?_)))); all_goals (first | omega | (simp; done) | (simp; omega)))⟩
      case measure => simp [intOf]; omega
    · go_wp2
      go_ret
      exact ⟨rfl, hb⟩
set_option maxHeartbeats 2000000 in
theorem eqRaw_same (a a' : Option Addr) (cap cap' n : Nat) (xs : List Shp) (w : World) (h : Shs w a xs) (h' : Shs w a' xs) (hx : xs.length = n) (hn : n ≤ 1048576) (hm : fldSum xs ≤ 1048576) :
    Calls Tryz.prog 7 #[.agg #[.slice a n cap], .agg #[.slice a' n cap']] w fun r w' => r = .returned (.bool true) ∧ Below w.heap.size w w' := by
  have HX := Lib.hid hx; clear hx
  have HS1 := Lib.hid h; clear h
  have HS2 := Lib.hid h'; clear h'
  go_enter Tryz.func7, Tryz.ntmps7
  go_wp2_with fail
  refine (eqRawMsgS_same _ _ _ _ _ xs _ (HS1.out.keep (by ((repeat (first | (with_reducible exact Below.refl _ _) | (with_reducible assumption) | (with_reducible refine Below.alloc ?_ ?_ _) | (with_reducible refine Below.setCell ?_ ?_ _) | (with_reducible refine Below.drew ?_) | (with_reducible refine below_setRow ?_ ?_ _) | (refine Below.trans ?_ (Below.mono (by assumption) ?_)))); all_goals (first | omega | (simp; done) | (simp; omega))))) (HS2.out.keep (by ((repeat (first | (with_reducible exact Below.refl _ _) | (with_reducible assumption) | (with_reducible refine Below.alloc ?_ ?_ _) | (with_reducible refine Below.setCell ?_ ?_ _) | (with_reducible refine Below.drew ?_) | (with_reducible refine below_setRow ?_ ?_ _) | (refine Below.trans ?_ (Below.mono (by assumption) ?_)))); all_goals (first | omega | (simp; done) | (simp; omega))))) HX.out hn hm).mono ?_
  rintro r w1 ⟨rfl, hb1⟩
  go_wp2
  go_ret
  exact ⟨rfl, by ((repeat (first | (with_reducible exact Below.refl _ _) | (with_reducible assumption) | (with_reducible refine Below.alloc ?_ ?_ _) | (with_reducible refine Below.setCell ?_ ?_ _) | (with_reducible refine Below.drew ?_) | (with_reducible refine below_setRow ?_ ?_ _) | (refine Below.trans ?_ (Below.mono (by assumption) ?_)))); all_goals (first | omega | (simp; done) | (simp; omega)))⟩
set_option maxRecDepth 100000 in
set_option maxHeartbeats 2000000 in
theorem markRawFieldS_any (a : Option Addr) (cap n : Nat) (L : List Value) (x : Int) (k : Nat) (hxk : x = k) (lo hi : Nat) (w : World) (ho : OwnR w lo hi a (n * 5) L) (hn : n ≤ 1048576) (h0 : 0 < k) (hk : k ≤ 100000000) :
    Calls Tryz.prog 45 #[.slice a n cap, .int .i64 x] w fun r w' => r = .returned (.int .i64 (x + 5 * n)) ∧ OwnR w' lo hi a (n * 5) ((marksF k n).flatMap Fld.cs) ∧ Chg lo hi w w' := by
  subst hxk
  have HO0 := Lib.hid ho; clear ho
  go_enter Tryz.func45, Tryz.ntmps45
  go_wp2
  go_loopw [1, 5] (fun t i wr => ∃ j q : Nat, j ≤ n ∧ i = .int .i64 j ∧ t = .int .i64 q ∧ Hid (q = k + 5 * j) ∧ q ≤ 106000000 ∧ 0 < q ∧ (∃ L', OwnR wr lo hi a (n * 5) L' ∧ L'.take (j * 5) = (marksF k j).flatMap Fld.cs) ∧ Chg lo hi w wr) (fun _ i _ => n - (intOf i).toNat)
  case atStart => exact ⟨0, k, Nat.zero_le _, rfl, rfl, Lib.hid (by omega), by omega, h0, ⟨_, HO0.out, by simp [marksF]⟩, Chg.refl _ _ _⟩
  case round =>
    obtain ⟨j, q, hj, rfl, rfl, HQ, hq, hq0, ⟨L', ho, hT⟩, hc⟩ := hrel
    have HT := Lib.hid hT; clear hT
    by_cases hlt : j < n
    · have HO := Lib.hid ho
      have HC := Lib.hid hc; clear hc
      have hlen := ho.len
      rcases ho.own with h' | ⟨g, rfl, h1, h2, h3, h4, h5⟩
      · omega
      have d0 := h4 (j * 5) L'[j * 5] (List.getElem?_eq_getElem (by omega))
      have d1 := h4 (j * 5 + 1) L'[j * 5 + 1] (List.getElem?_eq_getElem (by omega))
      have d2 := h4 (j * 5 + 2) L'[j * 5 + 2] (List.getElem?_eq_getElem (by omega))
      have d3 := h4 (j * 5 + 3) L'[j * 5 + 3] (List.getElem?_eq_getElem (by omega))
      have d4 := h4 (j * 5 + 4) L'[j * 5 + 4] (List.getElem?_eq_getElem (by omega))
      clear h4 ho
      have e2 := mod3 q 2 ((q : Int) + 1 + 1) (by push_cast; omega)
      have e3 := mod3 q 3 ((q : Int) + 1 + 1 + 1) (by push_cast; omega)
      go_wp2
      go_roundw
      case rel =>
        have hl5 : j * 5 + 5 ≤ n * 5 := by omega
        have hq5 : q + 5 ≤ 106000000 := by have := HQ.out; omega
        refine ⟨j + 1, q + 5, by omega, by go_num, by go_num, Lib.hid (by have := HQ.out; omega), hq5, by omega, ⟨setRow L' (j * 5) (markF q).cs, ?_, ?_⟩, ?_⟩
        · exact ((((HO.out.store (j := j * 5) (by omega) _).store (j := j * 5 + 1) (by omega) _).store (j := j * 5 + 2) (by omega) _).store (j := j * 5 + 3) (by omega) _).store (j := j * 5 + 4) (by omega) _
        · rw [show (j + 1) * 5 = j * 5 + (markF q).cs.length from by rw [fld_len]; omega, setRow_take (markF q).cs L' (j * 5) (by rw [fld_len, hlen]; omega), HT.out, marksF_succ, ← HQ.out]
          simp
        · exact ((((HC.out.trans (Chg.setCell h1 h2 _)).trans (Chg.setCell h1 h2 _)).trans (Chg.setCell h1 h2 _)).trans (Chg.setCell h1 h2 _)).trans (Chg.setCell h1 h2 _)
      case measure => simp [intOf]; omega
    · have hjn : j = n := by omega
      subst hjn
      have hL := Lib.hid (show L' = (marksF k j).flatMap Fld.cs by have h1 := HT.out; rw [List.take_of_length_le (by rw [ho.len]; omega)] at h1; exact h1)
      have HO := Lib.hid ho; clear ho
      have HC := Lib.hid hc; clear hc
      go_wp2
      go_ret
      exact ⟨ret_int (by have := HQ.out; omega), by rw [← hL.out]; exact HO.out, HC.out⟩
set_option maxRecDepth 100000 in
set_option maxHeartbeats 2000000 in
theorem heldRawFieldS_any (a : Option Addr) (cap n : Nat) (x : Int) (k : Nat) (hxk : x = k) (w : World) (h : Flds w a (marksF k n)) (hn : n ≤ 1048576) (h0 : 0 < k) (hk : k ≤ 100000000) :
    Calls Tryz.prog 46 #[.slice a n cap, .int .i64 x] w fun r w' => r = .returned (.int .i64 (x + 5 * n)) ∧ Below w.heap.size w w' := by
  subst hxk
  have HS := Lib.hid h; clear h
  go_enter Tryz.func46, Tryz.ntmps46
  go_wp2
  go_loopw [1, 5] (fun t i wr => ∃ j q : Nat, j ≤ n ∧ i = .int .i64 j ∧ t = .int .i64 q ∧ Hid (q = k + 5 * j) ∧ q ≤ 106000000 ∧ 0 < q ∧ Below w.heap.size w wr) (fun _ i _ => n - (intOf i).toNat)
  case atStart => exact ⟨0, k, Nat.zero_le _, rfl, rfl, Lib.hid (by omega), by omega, h0, Below.refl _ _⟩
  case round =>
    obtain ⟨j, q, hj, rfl, rfl, HQ, hq, hq0, hb⟩ := hrel
    have hz := hb.size
    by_cases hlt : j < n
    · obtain ⟨b, off, rfl, hlb, c0, c1, c2, c3, c4⟩ := Flds.at (Sl.keep HS.out hb) (marksF_at hlt)
      rw [← HQ.out] at c0 c1 c2 c3 c4
      simp only [markF] at c0 c1 c2 c3 c4
      have e2 := mod3 q 2 ((q : Int) + 1 + 1) (by push_cast; omega)
      have e3 := mod3 q 3 ((q : Int) + 1 + 1 + 1) (by push_cast; omega)
      go_wp2
      go_roundw
      case rel => exact ⟨j + 1, q + 5, by omega, by go_num, by go_num, Lib.hid (by have := HQ.out; omega), by have := HQ.out; omega, by omega, hb⟩
      case measure => simp [intOf]; omega
    · have hjn : j = n := by omega
      subst hjn
      go_wp2
      go_ret
      exact ⟨ret_int (by have := HQ.out; omega), hb⟩
set_option maxRecDepth 100000 in
set_option maxHeartbeats 2000000 in
theorem markRawMsgS_any (a : Option Addr) (cap n : Nat) (rs : List ShR) (xs : List Shp) (x : Int) (k : Nat) (hxk : x = k) (lo hi : Nat) (w : World) (ho : OwnSh w lo hi a n rs xs) (hn : n ≤ 1048576) (hm : fldSum xs ≤ 1048576) (h0 : 0 < k) (hk : k ≤ 1000000) :
    Calls Tryz.prog 25 #[.slice a n cap, .int .i64 x] w fun r w' => r = .returned (.int .i64 (kS k xs n : Nat)) ∧ (∃ rs', OwnSh w' lo hi a n rs' (marksS k xs) ∧ SameR rs rs') ∧ ChgB (ShBlk a n rs) w w' := by
  subst hxk
  have HO0 := Lib.hid ho; clear ho
  go_enter Tryz.func25, Tryz.ntmps25
  go_wp2
  go_loopw [1, 5] (fun t i wr => ∃ j q : Nat, j ≤ n ∧ i = .int .i64 j ∧ t = .int .i64 q ∧ Hid (q = kS k xs j) ∧ q ≤ 10000000 ∧ 0 < q ∧ (∃ rs', OwnSh wr lo hi a n rs' (partS k xs j) ∧ SameR rs rs') ∧ ChgB (ShBlk a n rs) w wr) (fun _ i _ => n - (intOf i).toNat)
  case atStart => exact ⟨0, k, Nat.zero_le _, rfl, rfl, Lib.hid (by simp [kS, fldSum]), by omega, h0, ⟨_, by rw [partS_zero]; exact HO0.out, SameR.refl _⟩, ChgB.refl _ _⟩
  case round =>
    obtain ⟨j, q, hj, rfl, rfl, HQ, hq, hq0, ⟨rs', ho, hsr⟩, hc⟩ := hrel
    by_cases hlt : j < n
    · obtain ⟨r, y, hr, hy⟩ := ho.at hlt
      have hxj : j < xs.length := by rw [HO0.out.lenx]; exact hlt
      have he : xs[j]? = some y := by
        rw [partS_at] at hy
        cases hxx : xs[j]? with
        | none => rw [hxx] at hy; simp at hy
        | some z => rw [hxx] at hy; simp at hy; rw [hy]
      obtain ⟨f1, f2, f3⟩ := ho.each j r y hr hy
      obtain ⟨g1, e1, p1, p2, p3, p4⟩ := f3.narrow ho.le
      have hlen := ho.outer.len
      have hcr : ∀ i u, (r.cs)[i]? = some u → i < 2 → (rs'.flatMap ShR.cs)[j * 2 + i]? = some u := fun i u hu hi => by rw [flatMap_at shR_len rs' j i r hr hi]; exact hu
      have hfe := fldSum_ge he
      have hks := Lib.hid (kS_succ (k := k) he)
      have hkl := Lib.hid (kS_le k xs (j + 1))
      have hrn : r.n ≤ 1048576 := by omega
      have HF2 := Lib.hid f2
      have HO := Lib.hid ho
      have HR := Lib.hid hr
      have HY := Lib.hid hy
      have HE := Lib.hid he
      have HP := Lib.hid p4
      have HS := Lib.hid hsr
      have HC := Lib.hid hc
      have HF := Lib.hid p3
      have hn0 := hn
      have hoff := Lib.hid (fun g hg hne => ho.off j r g hr hne hg)
      rcases ho.outer.own with h' | ⟨g, rfl, h1, h2, h3, h4, h5⟩
      · omega
      have d0 : wr.cell? ⟨g, j * 2, none⟩ = some (.int .i64 r.id) := h4 (j * 2) _ (hcr 0 _ rfl (by omega))
      have d1 : wr.cell? ⟨g, j * 2 + 1, none⟩ = some (.slice r.a r.n r.cap) := h4 (j * 2 + 1) _ (hcr 1 _ rfl (by omega))
      clear h4 ho hcr hsr hr hy he p4 hc f3 p3 f1 f2 hfe
      have hrow : OwnR (wr.setCell ⟨g, j * 2, none⟩ (.int .i64 (q : Int))) g1 e1 r.a (r.n * 5) (y.flds.flatMap Fld.cs) := HF.out.chg1 (Chg.setCell (lo := g) (hi := g + 1) (Nat.le_refl _) (by omega) _) fun b hb hne => by
        by_cases hbg : b = g
        · subst hbg; exact absurd hb (hoff.out b rfl (by omega))
        · omega
      have HW := Lib.hid hrow
      clear hrow
      go_wp2_with fail
      refine (markRawFieldS_any r.a r.cap r.n _ _ (q + 1) (by omega) g1 e1 _ HW.out (by omega) (by omega) (by omega)).mono ?_
      rintro r2 w2 ⟨rfl, hr2, hc2⟩
      have HR2 := Lib.hid hr2; clear hr2
      have HC2 := Lib.hid hc2; clear hc2
      go_wp2
      go_roundw
      case rel =>
        have hqv : q + 1 + 5 * r.n = kS k xs (j + 1) := by have := HQ.out; have := hks.out; have := HF2.out; omega
        refine ⟨j + 1, q + 1 + 5 * r.n, by omega, by go_num, by go_num, Lib.hid hqv, by rw [hqv]; have := hkl.out; omega, by omega, ⟨_, ?_, HS.out.set HR.out (q : Int)⟩, ?_⟩
        · have hp' : r.n = 0 ∧ e1 = g1 ∨ r.n ≠ 0 ∧ e1 = g1 + 1 ∧ r.a = some ⟨g1, 0, none⟩ := by
            rcases HP.out with hh | hh
            · exact .inl ⟨by have := hh.1; omega, hh.2⟩
            · exact .inr ⟨by have := hh.1; omega, hh.2⟩
          have hput := OwnSh.put HO.out hlt HR.out HY.out HR2.out (marksF_len _ _) HC2.out p1 p2 hp'
          rw [← partS_succ HE.out]
          have hmk : markShp k xs j y = ⟨(q : Int), marksF (q + 1) r.n⟩ := by simp only [markShp]; rw [← HQ.out, ← HF2.out]
          rw [hmk]; exact hput
        · refine (HC.out.trans (Chg.toB (Chg.setCell (lo := g) (hi := g + 1) (Nat.le_refl _) (by omega) _) fun b hb1 hb2 => ?_)).trans (Chg.toB HC2.out fun b hb1 hb2 => ?_)
          · have : b = g := by omega
            subst this
            exact .inl ⟨by omega, rfl⟩
          · rcases HP.out with ⟨u, v⟩ | ⟨u, v, z⟩
            · omega
            · have : b = g1 := by omega
              subst this
              exact HS.out.blk (.inr ⟨j, r, HR.out, by omega, z⟩)
      case measure => simp [intOf]; omega
    · have hjn : j = n := by omega
      subst hjn
      have HO := Lib.hid ho; clear ho
      have HC := Lib.hid hc; clear hc
      have HSR := Lib.hid hsr; clear hsr
      go_wp2
      go_ret
      exact ⟨ret_int (by rw [HQ.out]), ⟨rs', by rw [marksS, HO0.out.lenx]; exact HO.out, HSR.out⟩, HC.out⟩
set_option maxRecDepth 100000 in
set_option maxHeartbeats 2000000 in
theorem heldRawMsgS_any (a : Option Addr) (cap n : Nat) (xs : List Shp) (x : Int) (k : Nat) (hxk : x = k) (w : World) (h : Shs w a (marksS k xs)) (hx : xs.length = n) (hn : n ≤ 1048576) (hm : fldSum xs ≤ 1048576) (h0 : 0 < k) (hk : k ≤ 1000000) :
    Calls Tryz.prog 26 #[.slice a n cap, .int .i64 x] w fun r w' => r = .returned (.int .i64 (kS k xs n : Nat)) ∧ Below w.heap.size w w' := by
  subst hxk
  have HX := Lib.hid hx; clear hx
  have HSs := Lib.hid h; clear h
  go_enter Tryz.func26, Tryz.ntmps26
  go_wp2
  go_loopw [1, 5] (fun t i wr => ∃ j q : Nat, j ≤ n ∧ i = .int .i64 j ∧ t = .int .i64 q ∧ Hid (q = kS k xs j) ∧ q ≤ 10000000 ∧ 0 < q ∧ Below w.heap.size w wr) (fun _ i _ => n - (intOf i).toNat)
  case atStart => exact ⟨0, k, Nat.zero_le _, rfl, rfl, Lib.hid (by simp [kS, fldSum]), by omega, h0, Below.refl _ _⟩
  case round =>
    obtain ⟨j, q, hj, rfl, rfl, HQ, hq, hq0, hb⟩ := hrel
    have hz := hb.size
    by_cases hlt : j < n
    · obtain ⟨e, he, _⟩ := at_lt (xs := xs) (k := j) (by rw [HX.out]; exact hlt)
      obtain ⟨b, off, a', cap', rfl, hlb, c0, c1, hfl⟩ := (HSs.out.below hb (Nat.le_refl _)) j _ (marksS_at he)
      have hfe := fldSum_ge he
      have hks := Lib.hid (kS_succ (k := k) he)
      have hkl := Lib.hid (kS_le k xs (j + 1))
      simp only [markShp, ← HQ.out, marksF_len] at c0 c1 hfl
      have HFl := Lib.hid hfl
      clear he hfl
      go_wp2_with (first
        | (go_at_call 46; refine (heldRawFieldS_any _ _ _ _ (q + 1) (by omega) _ (Sl.keep HFl.out (by ((repeat (first | (with_reducible exact Below.refl _ _) | (with_reducible assumption) | (with_reducible refine Below.alloc ?_ ?_ _) | (with_reducible refine Below.setCell ?_ ?_ _) | (with_reducible refine Below.drew ?_) | (with_reducible refine below_setRow ?_ ?_ _) | (refine Below.trans ?_ (Below.mono (by assumption) ?_)))); all_goals (first | omega | (simp; done) | (simp; omega))))) (by omega) (by omega) (by omega)).mono ?_; rintro r w2 ⟨rfl, hb2⟩; obtain ⟨hc2, hf2⟩ := bcell hb2; have hz2 := hb2.size; (try simp only [World.size_alloc, World.size_setCell, World.size_drew] at hz2)))
      go_roundw
      case rel => exact ⟨j + 1, q + 1 + 5 * e.flds.length, by omega, by go_num, by go_num, Lib.hid (by have := HQ.out; have := hks.out; omega), by have := hks.out; have := hkl.out; have := HQ.out; omega, by omega, by ((repeat (first | (with_reducible exact Below.refl _ _) | (with_reducible assumption) | (with_reducible refine Below.alloc ?_ ?_ _) | (with_reducible refine Below.setCell ?_ ?_ _) | (with_reducible refine Below.drew ?_) | (with_reducible refine below_setRow ?_ ?_ _) | (refine Below.trans ?_ (Below.mono (by assumption) ?_)))); all_goals (first | omega | (simp; done) | (simp; omega)))⟩
      case measure => simp [intOf]; omega
    · have hjn : j = n := by omega
      subst hjn
      go_wp2
      go_ret
      exact ⟨ret_int (by rw [HQ.out]), hb⟩
set_option maxHeartbeats 1000000 in
theorem markRaw_any (a : Option Addr) (cap n : Nat) (rs : List ShR) (xs : List Shp) (x : Int) (k : Nat) (hxk : x = k) (lo hi : Nat) (w : World) (ho : OwnSh w lo hi a n rs xs) (hn : n ≤ 1048576) (hm : fldSum xs ≤ 1048576) (h0 : 0 < k) (hk : k ≤ 1000000) :
    Calls Tryz.prog 8 #[.agg #[.slice a n cap], .int .i64 x] w fun r w' => r = .returned (.int .i64 (kS k xs n : Nat)) ∧ (∃ rs', OwnSh w' lo hi a n rs' (marksS k xs) ∧ SameR rs rs') ∧ ChgB (ShBlk a n rs) w w' := by
  subst hxk
  have HO0 := Lib.hid ho; clear ho
  go_enter Tryz.func8, Tryz.ntmps8
  go_wp2_with fail
  refine (markRawMsgS_any a cap n rs xs _ k rfl lo hi _ (HO0.out.keep (by ((repeat (first | (with_reducible exact Below.refl _ _) | (with_reducible assumption) | (with_reducible refine Below.alloc ?_ ?_ _) | (with_reducible refine Below.setCell ?_ ?_ _) | (with_reducible refine Below.drew ?_) | (with_reducible refine below_setRow ?_ ?_ _) | (refine Below.trans ?_ (Below.mono (by assumption) ?_)))); all_goals (first | omega | (simp; done) | (simp; omega))))) hn hm h0 hk).mono ?_
  rintro r w1 ⟨rfl, ⟨rs', ho1, hsr1⟩, hc1⟩
  have HSR := Lib.hid hsr1; clear hsr1
  have HO := Lib.hid ho1; clear ho1
  have HC := Lib.hid hc1; clear hc1
  go_wp2
  go_ret
  exact ⟨rfl, ⟨rs', HO.out, HSR.out⟩, (ChgB.trans (Chg.toB (g := 0) (e := 0) (Chg.of_below (by ((repeat (first | (with_reducible exact Below.refl _ _) | (with_reducible assumption) | (with_reducible refine Below.alloc ?_ ?_ _) | (with_reducible refine Below.setCell ?_ ?_ _) | (with_reducible refine Below.drew ?_) | (with_reducible refine below_setRow ?_ ?_ _) | (refine Below.trans ?_ (Below.mono (by assumption) ?_)))); all_goals (first | omega | (simp; done) | (simp; omega))))) (fun b h1 h2 => by omega)) HC.out)⟩
set_option maxHeartbeats 1000000 in
theorem heldRaw_any (a : Option Addr) (cap n : Nat) (xs : List Shp) (x : Int) (k : Nat) (hxk : x = k) (w : World) (h : Shs w a (marksS k xs)) (hx : xs.length = n) (hn : n ≤ 1048576) (hm : fldSum xs ≤ 1048576) (h0 : 0 < k) (hk : k ≤ 1000000) :
    Calls Tryz.prog 9 #[.agg #[.slice a n cap], .int .i64 x] w fun r w' => r = .returned (.int .i64 (kS k xs n : Nat)) ∧ Below w.heap.size w w' := by
  subst hxk
  have HX := Lib.hid hx; clear hx
  have HSs := Lib.hid h; clear h
  go_enter Tryz.func9, Tryz.ntmps9
  go_wp2_with (first | (go_at_call 26; refine (heldRawMsgS_any _ _ _ xs _ k rfl _ (HSs.out.keep (by ((repeat (first | (with_reducible exact Below.refl _ _) | (with_reducible assumption) | (with_reducible refine Below.alloc ?_ ?_ _) | (with_reducible refine Below.setCell ?_ ?_ _) | (with_reducible refine Below.drew ?_) | (with_reducible refine below_setRow ?_ ?_ _) | (refine Below.trans ?_ (Below.mono (by assumption) ?_)))); all_goals (first | omega | (simp; done) | (simp; omega))))) HX.out hn hm h0 hk).mono ?_; rintro r w1 ⟨rfl, hb1⟩; obtain ⟨hc1, hf1⟩ := bcell hb1; have hz1 := hb1.size; (try simp only [World.size_alloc, World.size_setCell, World.size_drew] at hz1)))
  go_ret
  exact ⟨rfl, by ((repeat (first | (with_reducible exact Below.refl _ _) | (with_reducible assumption) | (with_reducible refine Below.alloc ?_ ?_ _) | (with_reducible refine Below.setCell ?_ ?_ _) | (with_reducible refine Below.drew ?_) | (with_reducible refine below_setRow ?_ ?_ _) | (refine Below.trans ?_ (Below.mono (by assumption) ?_)))); all_goals (first | omega | (simp; done) | (simp; omega)))⟩
section
variable {H : Type} {enc : TypeId × Value → H} {W : World} {base : Nat} {sp : Nat → Bool} {v : Value} {d : DataW H} {ps : List MemPlace}
end
theorem typed_ne {w : World} {b : Nat} {cur cur' : Array Value} {t t' : TypeId} (h : w.heap[b]? = some (.cells cur t (0, 0))) (h' : w.heap[b]? = some (.cells cur' t' (0, 0))) : t = t' := by
  rw [h] at h'
  simp only [Option.some.injEq, Obj.cells.injEq] at h'
  exact h'.2.1
theorem own_blk {w : World} {base n size : Nat} {t : TypeId} {v : Value} {L : List Value} (h : w.ownsRow base t size v n L) {g : Nat} (hg : v.ownBlock = some g) : ∃ cur, w.heap[g]? = some (.cells cur t (0, 0)) := by
  rcases h.2 with ⟨rfl, _⟩ | ⟨g', cap, cur, rfl, _, hh, _⟩
  · simp [Value.ownBlock] at hg
  · simp only [Value.ownBlock, Option.some.injEq] at hg; subst hg; exact ⟨cur, hh⟩
def Other (w : World) (row : Option Nat) (t : TypeId) : Prop := ∀ g, row = some g → ∃ cur tt, w.heap[g]? = some (.cells cur tt (0, 0)) ∧ tt ≠ t
theorem owns_keep {w w' : World} {base n size : Nat} {t : TypeId} {v : Value} {L : List Value} {row : Option Nat} (h : w.ownsRow base t size v n L) (hg : w.grownBy w' row) (ho : Other w row t) : w'.ownsRow base t size v n L := by
  refine h.kept hg ?_
  cases hb : v.ownBlock with
  | none => exact .inl rfl
  | some g =>
    refine .inr (fun e => ?_)
    obtain ⟨cur, hc⟩ := own_blk h hb
    obtain ⟨cur', tt, hc', hne⟩ := ho g e.symm
    exact hne (typed_ne hc' hc)
theorem other_box {w : World} {M : Nat} {cs : Array Value} {tt t : TypeId} (h : w.heap[M]? = some (.cells cs tt (0, 0))) (hne : tt ≠ t) : Other w (some M) t := fun g e => by
  obtain rfl := Option.some.inj e; exact ⟨cs, tt, h, hne⟩
theorem other_own {w : World} {base n size : Nat} {tt t : TypeId} {v : Value} {L : List Value} (h : w.ownsRow base tt size v n L) (hne : tt ≠ t) : Other w v.ownBlock t := fun g e => by
  obtain ⟨cur, hc⟩ := own_blk h e; exact ⟨cur, tt, hc, hne⟩
theorem only_set (w : World) (M o : Nat) (v : Value) : w.grownBy (w.setCell ⟨M, o, none⟩ v) (some M) :=
  ⟨rfl, rfl, rfl, by simp [World.setCell], fun k _ hk => Below.heap_setCell w ⟨M, o, none⟩ v k (by simp only; intro e; exact hk (by rw [e]))⟩
end Go.Proofs.YtbjbgneiglopmaaGreatDoor

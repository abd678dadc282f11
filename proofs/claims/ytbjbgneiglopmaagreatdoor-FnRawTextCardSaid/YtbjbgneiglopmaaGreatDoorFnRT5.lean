/- Texts that FnRawText leans on, part 5. (Put together by wip/tools/bundle.py.) -/
import Derived.Test.YtbjbgneiglopmaaGreatDoorFnRT1
import Derived.Test.YtbjbgneiglopmaaGreatDoorFnRT2
import Derived.Test.YtbjbgneiglopmaaGreatDoorFnRT3
import Derived.Test.YtbjbgneiglopmaaGreatDoorFnRT4
namespace Go.Proofs.YtbjbgneiglopmaaGreatDoor
set_option linter.unusedSimpArgs false
set_option linter.unusedVariables false
open Go.ChangeShapes Go.WideShapes Go.ChangeAt Go.RowKit Go.BigFrame
theorem firstV_zeroV {xs : List Shp} (h : (firstV xs).1 = 0) : firstV xs = (0, 0, 0) := by
  have hv := val_of h
  have hn := hv.n
  rw [firstV, if_neg (by omega)]
  have := firstM_zero (xs := xs) (fun i x hx => ⟨hv.msg i x hx, hv.fld i x hx⟩) 0
  simpa using this
def rawOk (xs : List Shp) : Bool := decide ((firstV xs).1 = 0)
set_option maxRecDepth 100000 in
theorem implRawOk_any (a : Option Addr) (cap n : Nat) (xs : List Shp) (w : World) (h : ShsL w a xs) (hx : xs.length = n) (hn : n ≤ 1048576) (hcap : n ≤ cap) (hm : fldSum xs ≤ 1048576) :
    Calls Tryz.prog 29 #[.agg #[.slice a n cap]] w fun r w' => r = .returned (.bool (rawOk xs)) ∧ Below w.heap.size w w' := by
  have HSs := Lib.hid h; have HX := Lib.hid hx; clear h hx
  by_cases h0 : (firstV xs).1 = 0
  · have hr : rawOk xs = true := by rw [rawOk, decide_eq_true h0]
    have hcall : ∀ W, ShsL W a xs → Calls Tryz.prog 52 #[.agg #[.slice a n cap]] W fun r w' => r = .returned (.agg #[.int .i64 0, .int .i64 0, .int .i64 0]) ∧ Below W.heap.size W w' := fun W hW => by
      have := implFirst_any a cap n xs W hW HX.out hn hcap hm
      rw [firstV_zeroV h0] at this; exact this
    rw [hr]
    clear h0 hr
    go_enter Tryz.func29, Tryz.ntmps29
    go_wp2_with fail
    refine (hcall _ (HSs.out.keep (by ((repeat (first | (with_reducible exact Below.refl _ _) | (with_reducible assumption) | (with_reducible refine Below.alloc ?_ ?_ _) | (with_reducible refine Below.setCell ?_ ?_ _) | (with_reducible refine Below.drew ?_) | (with_reducible refine below_setRow ?_ ?_ _) | (refine Below.trans ?_ (Below.mono (by assumption) ?_)))); all_goals (first | omega | (simp; done) | (simp; omega)))))).mono ?_
    rintro r w1 ⟨rfl, hb1⟩
    clear hcall
    go_wp2
    go_ret
    exact ⟨rfl, by ((repeat (first | (with_reducible exact Below.refl _ _) | (with_reducible assumption) | (with_reducible refine Below.alloc ?_ ?_ _) | (with_reducible refine Below.setCell ?_ ?_ _) | (with_reducible refine Below.drew ?_) | (with_reducible refine below_setRow ?_ ?_ _) | (refine Below.trans ?_ (Below.mono (by assumption) ?_)))); all_goals (first | omega | (simp; done) | (simp; omega)))⟩
  · have hr : rawOk xs = false := by rw [rawOk, decide_eq_false h0]
    obtain ⟨⟨v0, v1, v2⟩, hv⟩ : ∃ v, firstV xs = v := ⟨_, rfl⟩
    rw [hv] at h0
    have h1 : (v0 == 0) = false := by simpa using h0
    have h2 : decide (v0 = 0) = false := by simpa using h0
    have h3 : ¬ v0 = 0 := h0
    have hcall : ∀ W, ShsL W a xs → Calls Tryz.prog 52 #[.agg #[.slice a n cap]] W fun r w' => r = .returned (.agg #[.int .i64 v0, .int .i64 v1, .int .i64 v2]) ∧ Below W.heap.size W w' := fun W hW => by
      have := implFirst_any a cap n xs W hW HX.out hn hcap hm
      rw [hv] at this; exact this
    rw [hr]
    clear h0 hr hv
    go_enter Tryz.func29, Tryz.ntmps29
    go_wp2_with fail
    refine (hcall _ (HSs.out.keep (by ((repeat (first | (with_reducible exact Below.refl _ _) | (with_reducible assumption) | (with_reducible refine Below.alloc ?_ ?_ _) | (with_reducible refine Below.setCell ?_ ?_ _) | (with_reducible refine Below.drew ?_) | (with_reducible refine below_setRow ?_ ?_ _) | (refine Below.trans ?_ (Below.mono (by assumption) ?_)))); all_goals (first | omega | (simp; done) | (simp; omega)))))).mono ?_
    rintro r w1 ⟨rfl, hb1⟩
    clear hcall
    go_wp2
    go_ret
    exact ⟨rfl, by ((repeat (first | (with_reducible exact Below.refl _ _) | (with_reducible assumption) | (with_reducible refine Below.alloc ?_ ?_ _) | (with_reducible refine Below.setCell ?_ ?_ _) | (with_reducible refine Below.drew ?_) | (with_reducible refine below_setRow ?_ ?_ _) | (refine Below.trans ?_ (Below.mono (by assumption) ?_)))); all_goals (first | omega | (simp; done) | (simp; omega)))⟩
set_option maxRecDepth 100000 in
theorem specRawOk_any (a : Option Addr) (cap n : Nat) (xs : List Shp) (w : World) (h : ShsL w a xs) (hx : xs.length = n) (hn : n ≤ 1048576) (hm : fldSum xs ≤ 1048576) :
    Calls Tryz.prog 13 #[.agg #[.slice a n cap]] w fun r w' => r = .returned (.bool (rawOk xs)) ∧ Below w.heap.size w w' := by
  have HSs := Lib.hid h; have HX := Lib.hid hx; clear h hx
  obtain ⟨⟨v0, v1, v2⟩, hv⟩ : ∃ v, firstV xs = v := ⟨_, rfl⟩
  have hs : rawOk xs = (v0 == 0) := by rw [rawOk, hv]; rfl
  have HV := Lib.hid hv; clear hv
  have hcall : ∀ W, ShsL W a xs → Calls Tryz.prog 33 #[.agg #[.slice a n cap]] W fun r w' => r = .returned (.agg #[.int .i64 v0, .int .i64 v1, .int .i64 v2]) ∧ Below W.heap.size W w' := fun W hW => by
    have := specFirst_any a cap n xs W hW HX.out hn hm
    rw [HV.out] at this; exact this
  rw [hs]
  clear hs
  go_enter Tryz.func13, Tryz.ntmps13
  go_wp2_with fail
  refine (hcall _ (HSs.out.keep (by ((repeat (first | (with_reducible exact Below.refl _ _) | (with_reducible assumption) | (with_reducible refine Below.alloc ?_ ?_ _) | (with_reducible refine Below.setCell ?_ ?_ _) | (with_reducible refine Below.drew ?_) | (with_reducible refine below_setRow ?_ ?_ _) | (refine Below.trans ?_ (Below.mono (by assumption) ?_)))); all_goals (first | omega | (simp; done) | (simp; omega)))))).mono ?_
  rintro r w1 ⟨rfl, hb1⟩
  clear hcall
  have hf : (Instr.field 59 (.agg #[.int .i64 v0, .int .i64 v1, .int .i64 v2]) 0).run Tryz.prog w1 = .ok (.int .i64 v0) w1 := by
    simp [Instr.field, asAgg, go_sem, run_underlying Tryz.underlying59]
  go_wp2
  go_ret
  exact ⟨rfl, by ((repeat (first | (with_reducible exact Below.refl _ _) | (with_reducible assumption) | (with_reducible refine Below.alloc ?_ ?_ _) | (with_reducible refine Below.setCell ?_ ?_ _) | (with_reducible refine Below.drew ?_) | (with_reducible refine below_setRow ?_ ?_ _) | (refine Below.trans ?_ (Below.mono (by assumption) ?_)))); all_goals (first | omega | (simp; done) | (simp; omega)))⟩
def rawTextL (xs : List Shp) : List UInt8 := if rawOk xs = true then txtL xs else []
theorem rawOk_val {xs : List Shp} (h : rawOk xs = true) : RawVal xs := val_of (by simpa [rawOk] using h)
theorem RawVal.txB {xs : List Shp} (h : RawVal xs) : TxB xs := by
  refine ⟨by have := h.n; omega, fun x hx => by have := h.len hx; omega, fun x hx => ?_⟩
  obtain ⟨i, hi⟩ := List.getElem?_of_mem hx
  have := (msgC_id (h.msg i x hi)).1
  simp only [inB, decide_eq_true_eq] at this
  omega
theorem specRawText_any (a : Option Addr) (cap n : Nat) (xs : List Shp) (w : World) (h : ShsL w a xs) (hx : xs.length = n) (hn : n ≤ 1048576) (hm : fldSum xs ≤ 1048576) :
    Calls Tryz.prog 19 #[.agg #[.slice a n cap]] w fun r w' => r = .returned (.string (sB (rawTextL xs))) ∧ Below w.heap.size w w' := by
  have HSs := Lib.hid h; have HX := Lib.hid hx; clear h hx
  obtain ⟨ok, hok⟩ : ∃ ok, rawOk xs = ok := ⟨_, rfl⟩
  have hcall : ∀ W, ShsL W a xs → Calls Tryz.prog 13 #[.agg #[.slice a n cap]] W fun r w' => r = .returned (.bool ok) ∧ Below W.heap.size W w' := fun W hW => by
    have := specRawOk_any a cap n xs W hW HX.out hn hm
    rw [hok] at this; exact this
  have HO := Lib.hid hok; clear hok
  cases ok
  · have hr : rawTextL xs = [] := by rw [rawTextL, HO.out]; rfl
    go_enter Tryz.func19, Tryz.ntmps19
    go_wp2_with fail
    refine (hcall _ (HSs.out.keep (by ((repeat (first | (with_reducible exact Below.refl _ _) | (with_reducible assumption) | (with_reducible refine Below.alloc ?_ ?_ _) | (with_reducible refine Below.setCell ?_ ?_ _) | (with_reducible refine Below.drew ?_) | (with_reducible refine below_setRow ?_ ?_ _) | (refine Below.trans ?_ (Below.mono (by assumption) ?_)))); all_goals (first | omega | (simp; done) | (simp; omega)))))).mono ?_
    rintro r w1 ⟨rfl, hb1⟩
    go_wp2
    go_ret
    exact ⟨ret_str (by rw [hr]), by ((repeat (first | (with_reducible exact Below.refl _ _) | (with_reducible assumption) | (with_reducible refine Below.alloc ?_ ?_ _) | (with_reducible refine Below.setCell ?_ ?_ _) | (with_reducible refine Below.drew ?_) | (with_reducible refine below_setRow ?_ ?_ _) | (refine Below.trans ?_ (Below.mono (by assumption) ?_)))); all_goals (first | omega | (simp; done) | (simp; omega)))⟩
  · have hr : rawTextL xs = txtL xs := by rw [rawTextL, HO.out]; rfl
    rw [hr]
    go_enter Tryz.func19, Tryz.ntmps19
    go_wp2_with fail
    refine (hcall _ (HSs.out.keep (by ((repeat (first | (with_reducible exact Below.refl _ _) | (with_reducible assumption) | (with_reducible refine Below.alloc ?_ ?_ _) | (with_reducible refine Below.setCell ?_ ?_ _) | (with_reducible refine Below.drew ?_) | (with_reducible refine below_setRow ?_ ?_ _) | (refine Below.trans ?_ (Below.mono (by assumption) ?_)))); all_goals (first | omega | (simp; done) | (simp; omega)))))).mono ?_
    rintro r w1 ⟨rfl, hb1⟩
    have hz1 := hb1.size
    try simp only [World.size_alloc, World.size_setCell, World.size_drew] at hz1
    have hb1b : Below w.heap.size w w1 := by ((repeat (first | (with_reducible exact Below.refl _ _) | (with_reducible assumption) | (with_reducible refine Below.alloc ?_ ?_ _) | (with_reducible refine Below.setCell ?_ ?_ _) | (with_reducible refine Below.drew ?_) | (with_reducible refine below_setRow ?_ ?_ _) | (refine Below.trans ?_ (Below.mono (by assumption) ?_)))); all_goals (first | omega | (simp; done) | (simp; omega)))
    have kA := box_new0 hb1
    have hBA := box_lt0 hb1
    try simp only [World.size_alloc, World.size_setCell, World.size_drew] at kA
    try simp only [World.size_alloc, World.size_setCell, World.size_drew] at hBA
    clear hb1; have hb1 := hb1b; clear hb1b
    have hT1 : Below w.heap.size w w1 := by ((repeat (first | (with_reducible exact Below.refl _ _) | (with_reducible assumption) | (with_reducible refine Below.alloc ?_ ?_ _) | (with_reducible refine Below.setCell ?_ ?_ _) | (with_reducible refine Below.drew ?_) | (with_reducible refine below_setRow ?_ ?_ _) | (refine Below.trans ?_ (Below.mono (by assumption) ?_)))); all_goals (first | omega | (simp; done) | (simp; omega)))
    go_wp2_with fail
    refine (l9Text_any a cap n xs _ ((HSs.out.keep hT1).keep (by ((repeat (first | (with_reducible exact Below.refl _ _) | (with_reducible assumption) | (with_reducible refine Below.alloc ?_ ?_ _) | (with_reducible refine Below.setCell ?_ ?_ _) | (with_reducible refine Below.drew ?_) | (with_reducible refine below_setRow ?_ ?_ _) | (refine Below.trans ?_ (Below.mono (by assumption) ?_)))); all_goals (first | omega | (simp; done) | (simp; omega))))).shs HX.out (rawOk_val HO.out).txB).mono ?_
    rintro r w2 ⟨rfl, hb2⟩
    have hz2 := hb2.size
    try simp only [World.size_alloc, World.size_setCell, World.size_drew] at hz2
    have hb2b : Below w1.heap.size w1 w2 := by ((repeat (first | (with_reducible exact Below.refl _ _) | (with_reducible assumption) | (with_reducible refine Below.alloc ?_ ?_ _) | (with_reducible refine Below.setCell ?_ ?_ _) | (with_reducible refine Below.drew ?_) | (with_reducible refine below_setRow ?_ ?_ _) | (refine Below.trans ?_ (Below.mono (by assumption) ?_)))); all_goals (first | omega | (simp; done) | (simp; omega)))
    have kA_ := box_next hb2b hBA kA; clear kA
    have kA := kA_; clear kA_
    have hBA_ := Nat.lt_of_lt_of_le hBA hb2b.size; clear hBA; have hBA := hBA_; clear hBA_
    clear hb2; have hb2 := hb2b; clear hb2b
    go_wp2
    go_ret
    exact ⟨rfl, hT1.trans (hb2.mono hT1.size)⟩
theorem info_strT : (Tryz.prog.info? 9).map (fun i => (i.zero, i.size, i.bytes)) = some (some (.string ByteArray.empty), 1, 16) := by kernel_rfl
theorem own_atT {w : World} {base n cap size g : Nat} {t : TypeId} {L : List Value} (h : w.ownsRow base t size (.slice (some ⟨g, 0, none⟩) n cap) n L) {j : Nat} {u : Value} (hj : L[j]? = some u) : w.cell? ⟨g, j, none⟩ = some u := by
  have := h.cells (g := g) rfl j u hj
  by_cases h0 : j = 0
  · subst h0; simpa [Addr.add] using this
  · simpa [Addr.add, h0] using this
@[reducible] def strRow (L : List (List UInt8)) : List Value := L.map fun l => .string (sB l)
theorem joinRow_any (base : Nat) (v : Value) (n : Nat) (L : List (List UInt8)) (sep : List UInt8) (w : World) (ho : w.ownsRow base 9 1 v n (strRow L)) (hl : L.length = n) (hn : n ≤ 20) (hj : (Lib.join L sep).length ≤ 10000) :
    Calls Tryz.prog 32 #[v, .string (sB sep)] w fun r w' => r = .returned (.string (sB (Lib.join L sep))) ∧ Below w.heap.size w w' := by
  obtain ⟨a, cap, rfl, _⟩ := own_sh ho
  by_cases h0 : n = 0
  · subst h0
    have hL : L = [] := List.length_eq_zero_iff.1 hl
    subst hL
    refine (Tryz.strings_Join_none a cap (sB sep) w).mono ?_
    rintro r w' ⟨rfl, rfl⟩
    exact ⟨rfl, Below.refl _ _⟩
  · obtain ⟨g, cap', e, hg, hgl⟩ := ho.form (by omega)
    simp only [Value.slice.injEq, true_and] at e
    obtain ⟨rfl, rfl⟩ := e
    have hcap := own_lecapR ho
    have hm : (L.map sB).map (·.data.toList) = L := by simp [Function.comp_def]
    have := Tryz.strings_Join g 0 cap (L.map sB) (sB sep) w (fun j x hx => ?_) hgl (by simp; omega) (by simpa [hl] using hcap) (by rw [hm]; simp; omega)
    · rw [hm, List.length_map, hl] at this
      exact this
    · rw [List.getElem?_map, Option.map_eq_some_iff] at hx
      obtain ⟨l, hlx, rfl⟩ := hx
      rw [Nat.zero_add]
      exact own_atT ho (by rw [strRow, List.getElem?_map, hlx]; rfl)
set_option maxRecDepth 100000 in
set_option maxHeartbeats 8000000 in
theorem implRawText_any (a : Option Addr) (cap n : Nat) (xs : List Shp) (w : World) (h : ShsL w a xs) (hx : xs.length = n) (hn : n ≤ 1048576) (hcap : n ≤ cap) (hm : fldSum xs ≤ 1048576) (ht : TabW w) :
    Calls Tryz.prog 12 #[.agg #[.slice a n cap]] w fun r w' => r = .returned (.string (sB (rawTextL xs))) ∧ Below w.heap.size w w' := by
  have HSs := Lib.hid h; have HX := Lib.hid hx; have HT := Lib.hid ht; clear h hx ht
  obtain ⟨iS, hiS, hs0, hs1, hs2⟩ := info_parts info_strT
  obtain ⟨ok, hok⟩ : ∃ ok, rawOk xs = ok := ⟨_, rfl⟩
  have hcall : ∀ W, ShsL W a xs → Calls Tryz.prog 29 #[.agg #[.slice a n cap]] W fun r w' => r = .returned (.bool ok) ∧ Below W.heap.size W w' := fun W hW => by
    have := implRawOk_any a cap n xs W hW HX.out hn hcap hm
    rw [hok] at this; exact this
  have HO := Lib.hid hok; clear hok
  cases ok
  · have hr : rawTextL xs = [] := by rw [rawTextL, HO.out]; rfl
    go_enter Tryz.func12, Tryz.ntmps12
    go_wp2_with fail
    refine (hcall _ (HSs.out.keep (by ((repeat (first | (with_reducible exact Below.refl _ _) | (with_reducible assumption) | (with_reducible refine Below.alloc ?_ ?_ _) | (with_reducible refine Below.setCell ?_ ?_ _) | (with_reducible refine Below.drew ?_) | (with_reducible refine below_setRow ?_ ?_ _) | (refine Below.trans ?_ (Below.mono (by assumption) ?_)))); all_goals (first | omega | (simp; done) | (simp; omega)))))).mono ?_
    rintro r w1 ⟨rfl, hb1⟩
    go_wp2
    go_ret
    exact ⟨ret_str (by rw [hr]), by ((repeat (first | (with_reducible exact Below.refl _ _) | (with_reducible assumption) | (with_reducible refine Below.alloc ?_ ?_ _) | (with_reducible refine Below.setCell ?_ ?_ _) | (with_reducible refine Below.drew ?_) | (with_reducible refine below_setRow ?_ ?_ _) | (refine Below.trans ?_ (Below.mono (by assumption) ?_)))); all_goals (first | omega | (simp; done) | (simp; omega)))⟩
  · have hr : rawTextL xs = txtL xs := by rw [rawTextL, HO.out]; rfl
    rw [hr]
    have HBb := Lib.hid (rawOk_val HO.out).txB
    have hn7 : n ≤ 7 := by have := HBb.out.n; have := HX.out; omega
    clear hr HO
    go_enter Tryz.func12, Tryz.ntmps12
    go_wp2_with fail
    refine (hcall _ (HSs.out.keep (by ((repeat (first | (with_reducible exact Below.refl _ _) | (with_reducible assumption) | (with_reducible refine Below.alloc ?_ ?_ _) | (with_reducible refine Below.setCell ?_ ?_ _) | (with_reducible refine Below.drew ?_) | (with_reducible refine below_setRow ?_ ?_ _) | (refine Below.trans ?_ (Below.mono (by assumption) ?_)))); all_goals (first | omega | (simp; done) | (simp; omega)))))).mono ?_
    rintro r w1 ⟨rfl, hb1⟩
    have hz1 := hb1.size
    try simp only [World.size_alloc, World.size_setCell, World.size_drew] at hz1
    have hb1b : Below w.heap.size w w1 := by ((repeat (first | (with_reducible exact Below.refl _ _) | (with_reducible assumption) | (with_reducible refine Below.alloc ?_ ?_ _) | (with_reducible refine Below.setCell ?_ ?_ _) | (with_reducible refine Below.drew ?_) | (with_reducible refine below_setRow ?_ ?_ _) | (refine Below.trans ?_ (Below.mono (by assumption) ?_)))); all_goals (first | omega | (simp; done) | (simp; omega)))
    have kA := box_new0 hb1
    have hBA := box_lt0 hb1
    try simp only [World.size_alloc, World.size_setCell, World.size_drew] at kA
    try simp only [World.size_alloc, World.size_setCell, World.size_drew] at hBA
    clear hb1; have hb1 := hb1b; clear hb1b
    have hT1 : Below w.heap.size w w1 := hb1
    have HS1 := Lib.hid (HSs.out.keep hT1).shs
    have HT1 := Lib.hid (HT.out.keep hT1)
    have kA0 := kA 0
    simp only [List.getElem?_toArray, List.getElem?_cons_zero] at kA0
    clear kA hcall hb1 HT HSs
    go_wp2_with fail
    go_loopw [3, 16] (fun v i wr => ∃ k : Nat, k ≤ n ∧ i = .int .i64 k ∧ wr.ownsRow w1.heap.size 9 1 v k (strRow ((xs.take k).map msgL)) ∧ Below w1.heap.size w1 wr) (fun _ i _ => n - (intOf i).toNat)
    case atStart => exact ⟨0, Nat.zero_le _, rfl, ⟨by simp [strRow], .inr ⟨w1.heap.size, 0, #[], rfl, Nat.le_refl _, heap_nth0 w1 _, Nat.le_refl _, Nat.zero_le _, rfl, rfl⟩⟩, by ((repeat (first | (with_reducible exact Below.refl _ _) | (with_reducible assumption) | (with_reducible refine Below.alloc ?_ ?_ _) | (with_reducible refine Below.setCell ?_ ?_ _) | (with_reducible refine Below.drew ?_) | (with_reducible refine below_setRow ?_ ?_ _) | (refine Below.trans ?_ (Below.mono (by assumption) ?_)))); all_goals (first | omega | (simp; done) | (simp; omega)))⟩
    case round =>
      obtain ⟨k, hk, rfl, ho, hb⟩ := hrel
      have hz := hb.size
      have HO := Lib.hid ho; clear ho
      by_cases hlt : k < n
      · obtain ⟨x, hx, hxm⟩ := at_lt (xs := xs) (k := k) (by rw [HX.out]; exact hlt)
        have hx14 := HBb.out.len x hxm
        have hml := HBb.out.msg hxm
        obtain ⟨hi0, hi1⟩ := HBb.out.id x hxm
        have HXk := Lib.hid hx; clear hx hxm
        obtain ⟨b, off, a', cap', rfl, hbl, c0, c1, hfs⟩ := Shs.at (HS1.out.keep hb) HXk.out
        have HF := Lib.hid hfs; clear hfs
        have hkn : (k : Int) < (n : Int) := by omega
        go_wp2_with fail
        obtain ⟨wo, hwo⟩ : ∃ wo : World, wo = wr := ⟨_, rfl⟩
        rw [← hwo] at HO hb hz hbl c0 c1 HF ⊢
        clear hwo
        go_loopw [6, 24] (fun v j wi => ∃ q : Nat, q ≤ x.flds.length ∧ j = .int .i64 q ∧ wi.ownsRow (wo.heap.size + 1) 9 1 v q (strRow ((x.flds.take q).map fieldL)) ∧ wi.heap[wo.heap.size]? = some (.cells #[.int .i64 x.id, .slice a' x.flds.length cap'] 40 (0, 0)) ∧ Below wo.heap.size wo wi) (fun _ j _ => x.flds.length - (intOf j).toNat)
        case atStart => exact ⟨0, Nat.zero_le _, rfl, ⟨by simp [strRow], .inr ⟨wo.heap.size + 1, 0, #[], rfl, Nat.le_refl _, hset_new (by simp), Nat.le_refl _, Nat.zero_le _, rfl, rfl⟩⟩, hset_alloc (hset_new rfl), by ((repeat (first | (with_reducible exact Below.refl _ _) | (with_reducible assumption) | (with_reducible refine Below.alloc ?_ ?_ _) | (with_reducible refine Below.setCell ?_ ?_ _) | (with_reducible refine Below.drew ?_) | (with_reducible refine below_setRow ?_ ?_ _) | (refine Below.trans ?_ (Below.mono (by assumption) ?_)))); all_goals (first | omega | (simp; done) | (simp; omega)))⟩
        case round =>
          obtain ⟨q, hq, rfl, ho, hM, hbi⟩ := hrel
          have hzi := hbi.size
          have hMl := box_lt hM
          have HOq := Lib.hid ho; have HM := Lib.hid hM; clear ho hM
          have hFi := Sl.keep HF.out hbi
          by_cases hlq : q < x.flds.length
          · obtain ⟨f, hf, hfm⟩ := at_lt (xs := x.flds) (k := q) hlq
            obtain ⟨b3, off3, rfl, hl3, d0, d1, d2, d3, d4⟩ := Flds.at hFi hf
            have HFk := Lib.hid hf
            obtain ⟨G, hG⟩ : ∃ G, fieldL f = G := ⟨_, rfl⟩
            have hft : ∀ W : World, TabW W → Calls Tryz.prog 30 #[.agg #[.int .i64 f.number, .int .i64 f.kind, .bool f.rep, .bool f.packed, .int .i64 f.msg]] W fun r w' => r = .returned (.string ⟨G.toArray⟩) ∧ Below W.heap.size W w' := fun W hW => by
              have := implFieldText_any f W hW
              rw [sB, hG] at this; exact this
            have HG := Lib.hid hG; clear hG hf hfm hFi
            have hqn : (q : Int) < (x.flds.length : Int) := by omega
            have hTi : Below w1.heap.size w1 wr := hb.trans (hbi.mono hb.size)
            go_wp2_with fail
            refine (hft _ (HT1.out.keep (by ((repeat (first | (with_reducible exact Below.refl _ _) | (with_reducible assumption) | (with_reducible refine Below.alloc ?_ ?_ _) | (with_reducible refine Below.setCell ?_ ?_ _) | (with_reducible refine Below.drew ?_) | (with_reducible refine below_setRow ?_ ?_ _) | (refine Below.trans ?_ (Below.mono (by assumption) ?_)))); all_goals (first | omega | (simp; done) | (simp; omega)))))).mono ?_
            rintro r w2 ⟨rfl, hb2⟩
            have hz2 := hb2.size
            simp only [World.size_alloc] at hz2
            have hb2' : Below wr.heap.size wr w2 := by ((repeat (first | (with_reducible exact Below.refl _ _) | (with_reducible assumption) | (with_reducible refine Below.alloc ?_ ?_ _) | (with_reducible refine Below.setCell ?_ ?_ _) | (with_reducible refine Below.drew ?_) | (with_reducible refine below_setRow ?_ ?_ _) | (refine Below.trans ?_ (Below.mono (by assumption) ?_)))); all_goals (first | omega | (simp; done) | (simp; omega)))
            have HO2 := Lib.hid (owns_below HOq.out hb2' (Nat.le_refl _))
            have hM2 := (hb2'.block wo.heap.size hMl).trans HM.out
            have HM2 := Lib.hid hM2
            have hMl2 := box_lt hM2
            have hTo : Below wo.heap.size wo w2 := hbi.trans (hb2'.mono hzi)
            clear hM2 d0 d1 d2 d3 d4 hl3 hft HOq HM hMl hb2
            have HA := Lib.hid (World.ownsRow.alloc HO2.out (.cells #[.string ⟨G.toArray⟩] 9 (0, 0)))
            go_wp2_with (first | (at_builtin; refine wpList_append_lies _ rfl _ _ 36 rfl (wo.heap.size + 1) 9 iS _ 1 16 Tryz.underlying36 hiS hs0 hs1 hs2 rfl (by decide) _ q (strRow ((x.flds.take q).map fieldL)) rfl HA.out ⟨w2.heap.size, 0, none⟩ 1 1 [.string ⟨G.toArray⟩] rfl rfl (World.news_of_block (cs := #[.string ⟨G.toArray⟩]) (t := 9) (fr := (0, 0)) (hset_new rfl)) (by simp [Value.oneCell']) (by omega) (by unfold maxLen; omega) (by omega) (by simp; omega) _ rfl ?_; intro gn capn w11 hown11 hgr11 hat11 hlt11; have hgb : Below (wo.heap.size + 1) w2 w11 := below_grown ((Below.refl _ _).alloc (by omega) _) hgr11 (fun b e => (HA.out.lt b e).1) (by simp; omega); have HO11 := Lib.hid hown11; clear hown11 hgr11 hat11))
            have hrow : strRow ((x.flds.take q).map fieldL) ++ [.string ⟨G.toArray⟩] = strRow ((x.flds.take (q + 1)).map fieldL) := by
              rw [List.take_add_one, HFk.out, Option.toList_some, List.map_append, List.map_cons, List.map_nil, strRow, strRow, List.map_append, List.map_cons, List.map_nil, ← HG.out]
            rw [hrow] at HO11
            go_roundw
            case rel => exact ⟨q + 1, by omega, by go_num, HO11.out, (hgb.block _ (by omega)).trans HM2.out, hTo.trans (hgb.mono (by omega))⟩
            case measure => simp [intOf]; omega
          · have hqe : q = x.flds.length := by omega
            subst hqe
            have hTi : Below w1.heap.size w1 wr := hb.trans (hbi.mono hb.size)
            have kM := box_cells HM.out; have kM0 := kM 0
            simp only [List.getElem?_toArray, List.getElem?_cons_zero] at kM0
            have hD := Lib.itoa_length_le x.id hi0 hi1
            obtain ⟨D, hDe⟩ : ∃ D, Lib.itoa x.id = D := ⟨_, rfl⟩
            have hdig : ∀ W : World, TabW W → Calls Tryz.prog 31 #[.int .i64 x.id] W fun r w' => r = .returned (.string ⟨D.toArray⟩) ∧ Below W.heap.size W w' := fun W hW => by
              have := implDigits_any x.id W hW hi0 hi1
              rw [numB, hDe] at this; exact this
            rw [hDe] at hD
            have HDE := Lib.hid hDe
            have hJl := flds_len hx14
            obtain ⟨J, hJ⟩ : ∃ J, Lib.join (x.flds.map fieldL) [44] = J := ⟨_, rfl⟩
            have HOq' := HOq.out
            rw [List.take_of_length_le (Nat.le_refl _)] at HOq'
            have hjoin : ∀ (W : World) (v : Value), W.ownsRow (wo.heap.size + 1) 9 1 v x.flds.length (strRow (x.flds.map fieldL)) → Calls Tryz.prog 32 #[v, .string ⟨#[44]⟩] W fun r w' => r = .returned (.string ⟨J.toArray⟩) ∧ Below W.heap.size W w' := fun W v hv => by
              have := joinRow_any (wo.heap.size + 1) v x.flds.length (x.flds.map fieldL) [44] W hv (by simp) (by omega) (by omega)
              rw [hJ] at this; exact this
            rw [hJ] at hJl
            have HQ := Lib.hid HOq'; clear HOq' HOq
            have HMG := Lib.hid (show msgL x = D ++ [58] ++ J by rw [msgL, hDe, hJ])
            clear hDe hJ
            have e1 : ¬ 9223372036854775807 < D.length + 1 := by omega
            have e2 : ¬ 9223372036854775807 < D.length + 1 + J.length := by omega
            have hcat : ((⟨D.toArray⟩ : ByteArray) ++ ⟨[58].toArray⟩) ++ ⟨J.toArray⟩ = ⟨(D ++ [58] ++ J).toArray⟩ := by rw [bytes_cat, bytes_cat]
            obtain ⟨Z, hZ⟩ : ∃ Z, D ++ [58] ++ J = Z := ⟨_, rfl⟩
            rw [hZ] at hcat
            have HZ := Lib.hid (HMG.out.trans hZ); clear hZ HMG
            go_wp2_with fail
            refine (hdig _ (HT1.out.keep hTi)).mono ?_
            rintro r w2 ⟨rfl, hb2⟩
            have hTo2 : Below wo.heap.size wo w2 := hbi.trans (hb2.mono hzi)
            have HQ2 := Lib.hid (owns_below HQ.out hb2 (Nat.le_refl _)); clear HQ hdig
            go_wp2_with fail
            refine (hjoin _ _ HQ2.out).mono ?_
            rintro r w3 ⟨rfl, hb3⟩
            have hTo3 : Below wo.heap.size wo w3 := hTo2.trans (hb3.mono hTo2.size)
            have hz3 := hTo3.size
            have HW3 := Lib.hid (owns_below HO.out hTo3 (Nat.le_refl _)); clear hjoin HQ2 hTo2 hb2 hb3
            have HA := Lib.hid (World.ownsRow.alloc HW3.out (.cells #[.string ⟨Z.toArray⟩] 9 (0, 0)))
            go_wp2_with (first | (at_builtin; refine wpList_append_lies _ rfl _ _ 36 rfl w1.heap.size 9 iS _ 1 16 Tryz.underlying36 hiS hs0 hs1 hs2 rfl (by decide) _ k (strRow ((xs.take k).map msgL)) rfl HA.out ⟨w3.heap.size, 0, none⟩ 1 1 [.string ⟨Z.toArray⟩] rfl rfl (World.news_of_block (cs := #[.string ⟨Z.toArray⟩]) (t := 9) (fr := (0, 0)) (hset_new rfl)) (by simp [Value.oneCell']) (by omega) (by unfold maxLen; omega) (by omega) (by simp; omega) _ rfl ?_; intro gn capn w11 hown11 hgr11 hat11 hlt11; have hgb : Below w1.heap.size w3 w11 := below_grown ((Below.refl _ _).alloc (by omega) _) hgr11 (fun b e => (HA.out.lt b e).1) (by simp; omega); have HO11 := Lib.hid hown11; clear hown11 hgr11 hat11))
            have hrow : strRow ((xs.take k).map msgL) ++ [.string ⟨Z.toArray⟩] = strRow ((xs.take (k + 1)).map msgL) := by
              rw [List.take_add_one, HXk.out, Option.toList_some, List.map_append, List.map_cons, List.map_nil, strRow, strRow, List.map_append, List.map_cons, List.map_nil, HZ.out]
            rw [hrow] at HO11
            go_roundw
            case rel => exact ⟨k + 1, by omega, by go_num, HO11.out, (hb.trans (hTo3.mono hz)).trans (hgb.mono (Nat.le_refl _))⟩
            case measure => simp [intOf]; omega
      · have hke : k = n := by omega
        subst hke
        have hjl := HBb.out.txt k
        rw [List.take_of_length_le (by rw [HX.out]; exact Nat.le_refl _)] at hjl HO
        have hjoin : ∀ (W : World) (v : Value), W.ownsRow w1.heap.size 9 1 v k (strRow (xs.map msgL)) → Calls Tryz.prog 32 #[v, .string ⟨#[59]⟩] W fun r w' => r = .returned (.string (sB (txtL xs))) ∧ Below W.heap.size W w' := fun W v hv =>
          joinRow_any w1.heap.size v k (xs.map msgL) [59] W hv (by simpa using HX.out) (by omega) (by simp only [txtL] at hjl; omega)
        have hTi : Below w.heap.size w wr := hT1.trans (hb.mono hT1.size)
        go_wp2_with fail
        refine (hjoin _ _ HO.out).mono ?_
        rintro r w2 ⟨rfl, hb2⟩
        go_wp2
        go_ret
        exact ⟨rfl, hTi.trans (hb2.mono hTi.size)⟩
def readAll : List (List UInt8) → Option (List Fld)
  | [] => some []
  | x :: r => if (readS x).2 = true then (readAll r).map ((readS x).1 :: ·) else none
def wordsS (b : List UInt8) : List (List UInt8) := if b = [] then [] else partsL 44 b
def msgS (x : List UInt8) : Option Shp := match partsL 58 x with
  | [a, b] => (readAll (wordsS b)).map fun fs => ⟨numD a, fs⟩
  | _ => none
def rawsS : List (List UInt8) → Option (List Shp)
  | [] => some []
  | x :: r => match msgS x with
    | some m => (rawsS r).map (m :: ·)
    | none => none
def rawS (l : List UInt8) : List Shp × Bool := if l = [] then ([], true) else if 4000 < l.length then ([], false) else match rawsS (partsL 59 l) with
  | some xs => if rawTextL xs = l then (xs, true) else ([], false)
  | none => ([], false)
def wordsI (b : List UInt8) : List (List UInt8) := if b = [] then [] else splitL 9 b 44
def msgI (x : List UInt8) : Shp := ⟨numD (Lib.cut x [58]).1, (wordsI (Lib.cut x [58]).2.1).map fun t => (readI t).1⟩
def rawI (l : List UInt8) : List Shp × Bool := if l = [] then ([], true) else if rawTextL ((splitL 7 l 59).map msgI) = l then ((splitL 7 l 59).map msgI, true) else ([], false)
theorem join_free {P : UInt8 → Prop} {c : UInt8} (hc : P c) : ∀ {ws : List (List UInt8)}, (∀ w ∈ ws, ∀ b ∈ w, P b) → ∀ b ∈ Lib.join ws [c], P b
  | [], _, b, hb => by simp [Lib.join] at hb
  | [x], h, b, hb => by rw [Lib.join_one] at hb; exact h x (List.mem_cons_self ..) b hb
  | x :: y :: r, h, b, hb => by
    rw [join_cons2] at hb
    rcases List.mem_append.1 hb with hb | hb
    · exact h x (List.mem_cons_self ..) b hb
    · rcases List.mem_cons.1 hb with rfl | hb
      · exact hc
      · exact join_free hc (fun w hw => h w (List.mem_cons_of_mem _ hw)) b hb
theorem fieldL_free {f : Fld} (h : fieldOkT f = true) : ∀ b ∈ fieldL f, b ≠ 44 ∧ b ≠ 58 ∧ b ≠ 59 := by
  rw [fieldL_join h]
  refine join_free (P := fun b => b ≠ 44 ∧ b ≠ 58 ∧ b ≠ 59) (by decide) fun w hw b hb => ?_
  obtain ⟨h1, h2, h3⟩ := fwords_free h w hw b hb
  refine ⟨?_, ?_, ?_⟩ <;> rintro rfl
  · exact absurd h1 (by decide)
  · exact h2 (by decide)
  · exact h3 (by decide)
theorem RawVal.fldT {xs : List Shp} (h : RawVal xs) {x : Shp} (hx : x ∈ xs) {f : Fld} (hf : f ∈ x.flds) : fieldOkT f = true := by
  obtain ⟨i, hi⟩ := List.getElem?_of_mem hx
  obtain ⟨k, hk⟩ := List.getElem?_of_mem hf
  have h0 := h.fld i x hi k f hk
  unfold fldC at h0
  split at h0
  · simp at h0
  · rename_i h1
    split at h0
    · simp at h0
    · split at h0
      · simp at h0
      · rename_i h3
        split at h0
        · simp at h0
        · split at h0
          · simp at h0
          · rename_i h5
            have h1' : numOk f.number = true := by simpa using h1
            have h3' : inB f.kind 1 8 = true := by simpa using h3
            have h5' : refBad xs f = false := by simpa using h5
            simp only [numOk, Bool.and_eq_true] at h1'
            simp only [fieldOkT, h1'.1, h3', Bool.true_and]
            unfold refBad at h5'
            by_cases h8 : f.kind = 8
            · rw [if_pos h8] at h5' ⊢
              simp only [Bool.not_eq_false', hasId, List.any_eq_true] at h5'
              obtain ⟨y, hy, he⟩ := h5'
              obtain ⟨j, hj⟩ := List.getElem?_of_mem hy
              have h9 := (msgC_id (h.msg j y hj)).1
              have e : y.id = f.msg := by simpa using he
              rw [e] at h9; exact h9
            · rw [if_neg h8] at h5' ⊢
              simpa using h5'
theorem RawVal.id99 {xs : List Shp} (h : RawVal xs) {x : Shp} (hx : x ∈ xs) : 1 ≤ x.id ∧ x.id ≤ 99 := by
  obtain ⟨i, hi⟩ := List.getElem?_of_mem hx
  have := (msgC_id (h.msg i x hi)).1
  simpa [inB] using this
theorem body_free {fs : List Fld} (h : ∀ f ∈ fs, fieldOkT f = true) : ∀ b ∈ Lib.join (fs.map fieldL) [44], b ≠ 58 ∧ b ≠ 59 := by
  refine join_free (P := fun b => b ≠ 58 ∧ b ≠ 59) (by decide) fun w hw b hb => ?_
  obtain ⟨f, hf, rfl⟩ := List.mem_map.1 hw
  exact (fieldL_free (h f hf) b hb).2
theorem itoa_no {n : Int} (h : 0 ≤ n) : ∀ b ∈ Lib.itoa n, b ≠ 58 ∧ b ≠ 59 := fun b hb => by
  have := itoa_free h b hb
  refine ⟨?_, ?_⟩ <;> rintro rfl <;> exact absurd this.2 (by decide)
theorem msgL_cut (x : Shp) : msgL x = Lib.itoa x.id ++ 58 :: Lib.join (x.flds.map fieldL) [44] := by simp [msgL]
theorem msgL_free {x : Shp} (h0 : 0 ≤ x.id) (h : ∀ f ∈ x.flds, fieldOkT f = true) : ∀ b ∈ msgL x, b ≠ 59 := by
  rw [msgL_cut]
  intro b hb
  rcases List.mem_append.1 hb with hb | hb
  · exact (itoa_no h0 b hb).2
  · rcases List.mem_cons.1 hb with rfl | hb
    · decide
    · exact (body_free h b hb).2
theorem body_nil {fs : List Fld} (h : ∀ f ∈ fs, fieldOkT f = true) : Lib.join (fs.map fieldL) [44] = [] ↔ fs = [] := by
  constructor
  · intro e
    match fs, h with
    | [], _ => rfl
    | [f], h =>
      have := fieldL_short (h f (List.mem_cons_self ..))
      rw [List.map_cons, List.map_nil, Lib.join_one] at e
      rw [e] at this; simp at this
    | f :: g :: r, h =>
      rw [List.map_cons, List.map_cons, join_cons2] at e
      have := congrArg List.length e
      simp at this
  · rintro rfl; rfl
theorem readAll_back : ∀ {fs : List Fld}, (∀ f ∈ fs, fieldOkT f = true) → readAll (fs.map fieldL) = some fs
  | [], _ => rfl
  | f :: r, h => by
    rw [List.map_cons, readAll, readS_of (h f (List.mem_cons_self ..)), if_pos rfl, readAll_back fun g hg => h g (List.mem_cons_of_mem _ hg)]
    rfl
theorem wordsS_back {fs : List Fld} (h : ∀ f ∈ fs, fieldOkT f = true) : wordsS (Lib.join (fs.map fieldL) [44]) = fs.map fieldL := by
  rw [wordsS]
  split
  · rename_i e; rw [(body_nil h).1 e]; rfl
  · rename_i e
    exact partsL_join (fun e' => e (by rw [e']; rfl)) fun w hw b hb => by
      obtain ⟨f, hf, rfl⟩ := List.mem_map.1 hw
      exact (fieldL_free (h f hf) b hb).1
theorem wordsI_back {fs : List Fld} (h : ∀ f ∈ fs, fieldOkT f = true) (hl : fs.length ≤ 8) : wordsI (Lib.join (fs.map fieldL) [44]) = fs.map fieldL := by
  have h0 := wordsS_back h
  rw [wordsI]
  rw [wordsS] at h0
  split
  · rename_i e; rw [if_pos e] at h0; exact h0
  · rename_i e
    rw [if_neg e] at h0
    have h1 := partsL_len 44 (Lib.join (fs.map fieldL) [44])
    rw [h0, List.length_map] at h1
    rw [splitL]
    obtain ⟨K, hK⟩ : ∃ K, min 9 ((Lib.join (fs.map fieldL) [44]).length + 1) - 1 = K := ⟨_, rfl⟩
    rw [hK]
    exact splitK_join (fun e' => e (by rw [e']; rfl)) (by rw [List.length_map]; omega) fun w hw b hb => by
      obtain ⟨f, hf, rfl⟩ := List.mem_map.1 hw
      exact (fieldL_free (h f hf) b hb).1
theorem numD_id {n : Int} (h0 : 1 ≤ n) (h1 : n ≤ 99) : numD (Lib.itoa n) = n := by rw [itoa_nat (by omega), numD_dec (by omega)]; omega
theorem msgS_back {x : Shp} (hid : 1 ≤ x.id ∧ x.id ≤ 99) (h : ∀ f ∈ x.flds, fieldOkT f = true) : msgS (msgL x) = some x := by
  rw [msgS, msgL_cut, partsL_cut fun b hb => (itoa_no (by omega) b hb).1, partsL_free fun b hb => (body_free h b hb).1]
  simp only
  rw [wordsS_back h, readAll_back h, numD_id hid.1 hid.2]
  rfl
theorem cut_back {x : Shp} (hid : 1 ≤ x.id ∧ x.id ≤ 99) : Lib.cut (msgL x) [58] = (Lib.itoa x.id, Lib.join (x.flds.map fieldL) [44], true) := by
  rw [msgL_cut, Lib.cut, index_cut fun b hb => (itoa_no (by omega) b hb).1, if_pos (by omega)]
  simp
theorem map_readI {fs : List Fld} (h : ∀ f ∈ fs, fieldOkT f = true) : (fs.map fieldL).map (fun t => (readI t).1) = fs := by
  induction fs with
  | nil => rfl
  | cons f r ih => rw [List.map_cons, List.map_cons, readI_of (h f (List.mem_cons_self ..)), ih fun g hg => h g (List.mem_cons_of_mem _ hg)]
theorem msgI_back {x : Shp} (hid : 1 ≤ x.id ∧ x.id ≤ 99) (h : ∀ f ∈ x.flds, fieldOkT f = true) (hl : x.flds.length ≤ 8) : msgI (msgL x) = x := by
  rw [msgI, cut_back hid]
  simp only
  rw [wordsI_back h hl, map_readI h, numD_id hid.1 hid.2]
theorem rawsS_back : ∀ {xs : List Shp}, (∀ x ∈ xs, 1 ≤ x.id ∧ x.id ≤ 99) → (∀ x ∈ xs, ∀ f ∈ x.flds, fieldOkT f = true) → rawsS (xs.map msgL) = some xs
  | [], _, _ => rfl
  | x :: r, h1, h2 => by
    rw [List.map_cons, rawsS, msgS_back (h1 x (List.mem_cons_self ..)) (h2 x (List.mem_cons_self ..))]
    simp only
    rw [rawsS_back (fun y hy => h1 y (List.mem_cons_of_mem _ hy)) fun y hy => h2 y (List.mem_cons_of_mem _ hy)]
    rfl
theorem map_msgI : ∀ {xs : List Shp}, (∀ x ∈ xs, 1 ≤ x.id ∧ x.id ≤ 99) → (∀ x ∈ xs, ∀ f ∈ x.flds, fieldOkT f = true) → (∀ x ∈ xs, x.flds.length ≤ 8) → (xs.map msgL).map msgI = xs
  | [], _, _, _ => rfl
  | x :: r, h1, h2, h3 => by
    rw [List.map_cons, List.map_cons, msgI_back (h1 x (List.mem_cons_self ..)) (h2 x (List.mem_cons_self ..)) (h3 x (List.mem_cons_self ..)), map_msgI (fun y hy => h1 y (List.mem_cons_of_mem _ hy)) (fun y hy => h2 y (List.mem_cons_of_mem _ hy)) fun y hy => h3 y (List.mem_cons_of_mem _ hy)]
theorem txtL_ne {xs : List Shp} (h : xs ≠ []) : txtL xs ≠ [] := by
  intro e
  match xs, h with
  | [x], _ => rw [txtL, List.map_cons, List.map_nil, Lib.join_one, msgL_cut] at e; have := congrArg List.length e; simp at this
  | x :: y :: r, _ => rw [txtL, List.map_cons, List.map_cons, join_cons2] at e; have := congrArg List.length e; simp at this
theorem partsL_txt {xs : List Shp} (hv : RawVal xs) (hne : xs ≠ []) : partsL 59 (txtL xs) = xs.map msgL :=
  partsL_join (fun e => hne (by simpa using e)) fun w hw b hb => by
    obtain ⟨x, hx, rfl⟩ := List.mem_map.1 hw
    exact msgL_free (by have := (hv.id99 hx); omega) (fun f hf => hv.fldT hx hf) b hb
theorem splitL_txt {xs : List Shp} (hv : RawVal xs) (hne : xs ≠ []) : splitL 7 (txtL xs) 59 = xs.map msgL := by
  have h1 := partsL_len 59 (txtL xs)
  rw [partsL_txt hv hne, List.length_map] at h1
  have h2 := hv.n
  rw [splitL]
  obtain ⟨K, hK⟩ : ∃ K, min 7 ((txtL xs).length + 1) - 1 = K := ⟨_, rfl⟩
  rw [hK]
  exact splitK_join (fun e => hne (by simpa using e)) (by rw [List.length_map]; omega) fun w hw b hb => by
    obtain ⟨x, hx, rfl⟩ := List.mem_map.1 hw
    exact msgL_free (by have := (hv.id99 hx); omega) (fun f hf => hv.fldT hx hf) b hb
theorem msgL_short {xs : List Shp} (hv : RawVal xs) {x : Shp} (hx : x ∈ xs) : (msgL x).length ≤ 300 := by
  have h1 := join_len [44] 34 (x.flds.map fieldL) (by intro y hy; obtain ⟨f, hf, rfl⟩ := List.mem_map.1 hy; exact (fieldL_short (hv.fldT hx hf)).2)
  simp only [List.length_map, List.length_cons, List.length_nil] at h1
  have h2 := hv.len hx
  have h3 := hv.id99 hx
  have h4 : (Lib.itoa x.id).length ≤ 2 := by rw [itoa_nat (by omega)]; exact dec_lenT 2 _ (by omega) (by omega)
  rw [msgL_cut, List.length_append, List.length_cons]
  omega
theorem txtL_short {xs : List Shp} (hv : RawVal xs) : (txtL xs).length ≤ 4000 := by
  have h1 := join_len [59] 300 (xs.map msgL) (by intro y hy; obtain ⟨x, hx, rfl⟩ := List.mem_map.1 hy; exact msgL_short hv hx)
  simp only [List.length_map, List.length_cons, List.length_nil] at h1
  have := hv.n
  simp only [txtL]
  omega
theorem rawTextL_ok {xs : List Shp} (h : rawOk xs = true) : rawTextL xs = txtL xs := by rw [rawTextL, if_pos h]
theorem rawS_of {xs : List Shp} (h : rawOk xs = true) : rawS (txtL xs) = (xs, true) := by
  by_cases hne : xs = []
  · subst hne; rfl
  · have hv := rawOk_val h
    rw [rawS, if_neg (txtL_ne hne), if_neg (by have := txtL_short hv; omega), partsL_txt hv hne, rawsS_back (fun x hx => hv.id99 hx) fun x hx f hf => hv.fldT hx hf]
    simp only
    rw [rawTextL_ok h, if_pos rfl]
theorem rawI_of {xs : List Shp} (h : rawOk xs = true) : rawI (txtL xs) = (xs, true) := by
  by_cases hne : xs = []
  · subst hne; rfl
  · have hv := rawOk_val h
    rw [rawI, if_neg (txtL_ne hne), splitL_txt hv hne, map_msgI (fun x hx => hv.id99 hx) (fun x hx f hf => hv.fldT hx hf) (fun x hx => hv.len hx), rawTextL_ok h, if_pos rfl]
theorem rawOk_of_ne {xs : List Shp} {l : List UInt8} (h : rawTextL xs = l) (hl : l ≠ []) : rawOk xs = true ∧ txtL xs = l := by
  rw [rawTextL] at h
  split at h
  · rename_i h0; exact ⟨h0, h⟩
  · exact absurd h.symm hl
theorem rawS_not {l : List UInt8} (hl : l ≠ []) (h : ∀ xs, rawOk xs = true → txtL xs ≠ l) : rawS l = ([], false) := by
  rw [rawS, if_neg hl]
  split
  · rfl
  · split
    · rw [if_neg]; intro e; obtain ⟨h1, h2⟩ := rawOk_of_ne e hl; exact h _ h1 h2
    · rfl
theorem rawI_not {l : List UInt8} (hl : l ≠ []) (h : ∀ xs, rawOk xs = true → txtL xs ≠ l) : rawI l = ([], false) := by
  rw [rawI, if_neg hl, if_neg]
  intro e; obtain ⟨h1, h2⟩ := rawOk_of_ne e hl; exact h _ h1 h2
theorem raw_same (l : List UInt8) : rawI l = rawS l := by
  by_cases hl : l = []
  · subst hl; rfl
  by_cases h : ∃ xs, rawOk xs = true ∧ txtL xs = l
  · obtain ⟨xs, hx, rfl⟩ := h; rw [rawI_of hx, rawS_of hx]
  · have h' : ∀ xs, rawOk xs = true → txtL xs ≠ l := fun xs hx e => h ⟨xs, hx, e⟩
    rw [rawI_not hl h', rawS_not hl h']
theorem rawI_val {l : List UInt8} : rawOk (rawI l).1 = true := by
  by_cases hl : l = []
  · subst hl; rfl
  by_cases h : ∃ xs, rawOk xs = true ∧ txtL xs = l
  · obtain ⟨xs, hx, rfl⟩ := h; rw [rawI_of hx]; exact hx
  · rw [rawI_not hl fun xs hx e => h ⟨xs, hx, e⟩]; rfl
theorem rawI_back {l : List UInt8} {xs : List Shp} (h : rawI l = (xs, true)) : rawTextL xs = l ∧ rawOk xs = true := by
  by_cases hl : l = []
  · subst hl
    simp only [rawI, if_pos, Prod.mk.injEq, and_true] at h
    subst h; exact ⟨rfl, rfl⟩
  by_cases hx : ∃ xs, rawOk xs = true ∧ txtL xs = l
  · obtain ⟨ys, hy, rfl⟩ := hx
    rw [rawI_of hy] at h
    simp only [Prod.mk.injEq, and_true] at h
    subst h; exact ⟨rawTextL_ok hy, hy⟩
  · rw [rawI_not hl fun ys hy e => hx ⟨ys, hy, e⟩] at h
    simp at h
theorem partsL_each (c : UInt8) : ∀ (l : List UInt8), ((partsL c l).map List.length).sum + (partsL c l).length = l.length + 1
  | [] => by simp [partsL]
  | b :: r => by
    have ih := partsL_each c r
    unfold partsL
    split
    · simp; omega
    · split
      · rename_i e; rw [e] at ih; simp at ih
      · rename_i w ws e; rw [e] at ih; simp at ih ⊢; omega
theorem mem_le_sum : ∀ {L : List Nat} {n : Nat}, n ∈ L → n ≤ L.sum
  | [], n, h => by cases h
  | m :: L, n, h => by
    rw [List.sum_cons]
    rcases List.mem_cons.1 h with rfl | h
    · omega
    · have := mem_le_sum h; omega
theorem partsL_le {c : UInt8} {l x : List UInt8} (h : x ∈ partsL c l) : x.length ≤ l.length := by
  have h1 := partsL_each c l
  have h2 : x.length ≤ ((partsL c l).map List.length).sum := mem_le_sum (List.mem_map_of_mem h)
  have h3 : 1 ≤ (partsL c l).length := by cases e : partsL c l with | nil => rw [e] at h; cases h | cons => simp
  omega
theorem readAll_len : ∀ {ws : List (List UInt8)} {fs : List Fld}, readAll ws = some fs → fs.length = ws.length
  | [], fs, h => by simp [readAll] at h; subst h; rfl
  | x :: r, fs, h => by
    rw [readAll] at h
    split at h
    · obtain ⟨gs, hg, rfl⟩ := Option.map_eq_some_iff.1 h
      simp [readAll_len hg]
    · cases h
theorem wordsS_len (b : List UInt8) : (wordsS b).length ≤ b.length + 1 := by
  rw [wordsS]; split
  · simp
  · exact partsL_len 44 b
theorem msgS_len {x : List UInt8} {m : Shp} (h : msgS x = some m) : m.flds.length ≤ x.length := by
  rw [msgS] at h
  split at h
  · rename_i a b e
    obtain ⟨fs, hf, rfl⟩ := Option.map_eq_some_iff.1 h
    have h1 := partsL_each 58 x
    rw [e] at h1
    have h2 := readAll_len hf
    have h3 := wordsS_len b
    simp at h1 ⊢
    omega
  · cases h
theorem rawsS_len : ∀ {ws : List (List UInt8)} {xs : List Shp}, rawsS ws = some xs → xs.length = ws.length ∧ fldSum xs ≤ (ws.map List.length).sum
  | [], xs, h => by simp [rawsS] at h; subst h; exact ⟨rfl, Nat.le_refl _⟩
  | x :: r, xs, h => by
    rw [rawsS] at h
    split at h
    · rename_i m hm
      obtain ⟨ys, hy, rfl⟩ := Option.map_eq_some_iff.1 h
      obtain ⟨h1, h2⟩ := rawsS_len hy
      have h3 := msgS_len hm
      simp only [fldSum] at h2 ⊢
      simp; omega
    · cases h
theorem rawsS_size {l : List UInt8} {xs : List Shp} (h : rawsS (partsL 59 l) = some xs) : xs.length ≤ l.length + 1 ∧ fldSum xs ≤ l.length := by
  obtain ⟨h1, h2⟩ := rawsS_len h
  have h3 := partsL_each 59 l
  have h4 := partsL_len 59 l
  have h5 : 1 ≤ (partsL 59 l).length := by cases e : partsL 59 l with | nil => exact absurd e (partsL_ne _ _) | cons => simp
  omega
theorem splitL_le {n : Nat} {c : UInt8} {l x : List UInt8} (h : x ∈ splitL n l c) : x.length ≤ l.length := splitK_len [c] _ l x h
theorem splitL_num {n : Nat} {c : UInt8} {l : List UInt8} (hn : 1 ≤ n) : (splitL n l c).length ≤ n := by
  have := splitK_num [c] (min n (l.length + 1) - 1) l
  rw [splitL]; omega
theorem wordsI_num (b : List UInt8) : (wordsI b).length ≤ 9 := by
  rw [wordsI]; split
  · simp
  · exact splitL_num (by omega)
theorem wordsI_le {b x : List UInt8} (h : x ∈ wordsI b) : x.length ≤ b.length := by
  rw [wordsI] at h; split at h
  · cases h
  · exact splitL_le h
theorem cut_le (x : List UInt8) : (Lib.cut x [58]).1.length ≤ x.length ∧ (Lib.cut x [58]).2.1.length ≤ x.length := by
  rw [Lib.cut]; split
  · simp; omega
  · simp
theorem msgI_len (x : List UInt8) : (msgI x).flds.length ≤ 9 := by
  rw [msgI, List.length_map]; exact wordsI_num _
theorem rawsI_size (l : List UInt8) : ((splitL 7 l 59).map msgI).length ≤ 7 ∧ fldSum ((splitL 7 l 59).map msgI) ≤ 1048576 := by
  have h1 : (splitL 7 l 59).length ≤ 7 := splitL_num (by omega)
  refine ⟨by rw [List.length_map]; exact h1, ?_⟩
  have : ∀ ws : List (List UInt8), fldSum (ws.map msgI) ≤ 9 * ws.length := fun ws => by
    induction ws with
    | nil => simp [fldSum]
    | cons x r ih => have := msgI_len x; simp only [fldSum, List.map_cons, List.sum_cons, List.length_cons] at ih ⊢; omega
  have := this (splitL 7 l 59)
  omega
theorem typed_ne {w : World} {b : Nat} {cur cur' : Array Value} {t t' : TypeId} (h : w.heap[b]? = some (.cells cur t (0, 0))) (h' : w.heap[b]? = some (.cells cur' t' (0, 0))) : t = t' := by
  rw [h] at h'
  simp only [Option.some.injEq, Obj.cells.injEq] at h'
  exact h'.2.1
theorem own_blk {w : World} {base n size : Nat} {t : TypeId} {v : Value} {L : List Value} (h : w.ownsRow base t size v n L) {g : Nat} (hg : v.ownBlock = some g) : ∃ cur, w.heap[g]? = some (.cells cur t (0, 0)) := by
  rcases h.2 with ⟨rfl, _⟩ | ⟨g', cap, cur, rfl, _, hh, _⟩
  · simp [Value.ownBlock] at hg
  · simp only [Value.ownBlock, Option.some.injEq] at hg; subst hg; exact ⟨cur, hh⟩
def Other (w : World) (row : Option Nat) (t : TypeId) : Prop := ∀ g, row = some g → ∃ cur tt, w.heap[g]? = some (.cells cur tt (0, 0)) ∧ tt ≠ t
theorem owns_keep {w w' : World} {base n size : Nat} {t : TypeId} {v : Value} {L : List Value} {row : Option Nat} (h : w.ownsRow base t size v n L) (hg : w.grownBy w' row) (ho : Other w row t) : w'.ownsRow base t size v n L := by
  refine h.kept hg ?_
  cases hb : v.ownBlock with
  | none => exact .inl rfl
  | some g =>
    refine .inr (fun e => ?_)
    obtain ⟨cur, hc⟩ := own_blk h hb
    obtain ⟨cur', tt, hc', hne⟩ := ho g e.symm
    exact hne (typed_ne hc' hc)
theorem other_box {w : World} {M : Nat} {cs : Array Value} {tt t : TypeId} (h : w.heap[M]? = some (.cells cs tt (0, 0))) (hne : tt ≠ t) : Other w (some M) t := fun g e => by
  obtain rfl := Option.some.inj e; exact ⟨cs, tt, h, hne⟩
theorem other_own {w : World} {base n size : Nat} {tt t : TypeId} {v : Value} {L : List Value} (h : w.ownsRow base tt size v n L) (hne : tt ≠ t) : Other w v.ownBlock t := fun g e => by
  obtain ⟨cur, hc⟩ := own_blk h e; exact ⟨cur, tt, hc, hne⟩
theorem only_set (w : World) (M o : Nat) (v : Value) : w.grownBy (w.setCell ⟨M, o, none⟩ v) (some M) :=
  ⟨rfl, rfl, rfl, by simp [World.setCell], fun k _ hk => Below.heap_setCell w ⟨M, o, none⟩ v k (by simp only; intro e; exact hk (by rw [e]))⟩
theorem info_RrF : (Tryz.prog.info? 44).map (fun i => (i.zero, i.size, i.bytes)) = some (some (.agg #[.int .i64 0, .int .i64 0, .bool false, .bool false, .int .i64 0]), 5, 32) := by kernel_rfl
theorem info_RrM : (Tryz.prog.info? 40).map (fun i => (i.zero, i.size, i.bytes)) = some (some (.agg #[.int .i64 0, .slice none 0 0]), 2, 32) := by kernel_rfl
def FreshRd (w : World) (n : Nat) (xs : List Shp) (b : Bool) (r : Ending) (w' : World) : Prop :=
  ∃ a cap rs, r = .returned (.tuple #[.agg #[.slice a n cap], .bool b]) ∧ OwnShs w' w.heap.size 40 44 (.slice a n cap) n rs xs ∧ Below w.heap.size w w'
theorem raws_step {x : List UInt8} {r : List (List UInt8)} {m : Shp} {ys : List Shp} (h : msgS x = some m) : (rawsS (x :: r)).map (ys ++ ·) = (rawsS r).map ((ys ++ [m]) ++ ·) := by
  rw [rawsS, h]; cases rawsS r <;> simp
theorem raws_none {x : List UInt8} {r : List (List UInt8)} {ys : List Shp} (h : msgS x = none) : (rawsS (x :: r)).map (ys ++ ·) = none := by rw [rawsS, h]; rfl
theorem readAll_step {x : List UInt8} {r : List (List UInt8)} {f : Fld} {ys : List Fld} (h : readS x = (f, true)) : (readAll (x :: r)).map (ys ++ ·) = (readAll r).map ((ys ++ [f]) ++ ·) := by
  rw [readAll, h]; cases readAll r <;> simp
theorem readAll_none {x : List UInt8} {r : List (List UInt8)} {ys : List Fld} (h : (readS x).2 = false) : (readAll (x :: r)).map (ys ++ ·) = none := by rw [readAll, h]; rfl
theorem msgS_bad {x : List UInt8} (h : ¬ (partsL 58 x).length = 2) : msgS x = none := by
  rw [msgS]; split
  · rename_i e; rw [e] at h; simp at h
  · rfl
theorem msgS_two {x a b : List UInt8} (h : partsL 58 x = [a, b]) : msgS x = (readAll (wordsS b)).map fun fs => ⟨numD a, fs⟩ := by rw [msgS, h]
theorem fld_snocR (fs : List Fld) (f : Fld) : (fs ++ [f]).flatMap Fld.cs = fs.flatMap Fld.cs ++ f.cs := by simp
set_option maxRecDepth 100000 in
set_option maxHeartbeats 8000000 in
theorem specReadRaw_any (s : ByteArray) (w : World) (hs : s.size ≤ 1048576) :
    Calls Tryz.prog 5 #[.string s] w (FreshRd w (rawS (bL s)).1.length (rawS (bL s)).1 (rawS (bL s)).2) := by
  obtain ⟨⟨RX, RB⟩, hR⟩ : ∃ R, rawS (bL s) = R := ⟨_, rfl⟩
  rw [hR]
  have HR := Lib.hid hR; clear hR
  simp only
  by_cases h0 : s.size = 0
  · have hl0 : bL s = [] := List.length_eq_zero_iff.1 (by rw [bL_len]; exact h0)
    have hz : (RX, RB) = ([], true) := by rw [← HR.out, rawS, if_pos hl0]
    simp only [Prod.mk.injEq] at hz
    obtain ⟨rfl, rfl⟩ := hz
    have hse : s.toList = [] := by rw [ByteArray.toList_eq]; exact List.length_eq_zero_iff.1 (by rw [Array.length_toList]; exact h0)
    clear HR h0 hl0
    go_enter Tryz.func5, Tryz.ntmps5
    go_wp2_with fail
    refine bodyPost_ret (v := .tuple #[.agg #[.slice none 0 0], .bool true]) (by simp [results, Tryz.results5, go_sem]) rfl ⟨none, 0, [], rfl, OwnShs.nil _ _ _ _, by ((repeat (first | (with_reducible exact Below.refl _ _) | (with_reducible assumption) | (with_reducible refine Below.alloc ?_ ?_ _) | (with_reducible refine Below.setCell ?_ ?_ _) | (with_reducible refine Below.drew ?_) | (with_reducible refine below_setRow ?_ ?_ _) | (refine Below.trans ?_ (Below.mono (by assumption) ?_)))); all_goals (first | omega | (simp; done) | (simp; omega)))⟩
  · have hl0 : bL s ≠ [] := fun e => h0 (by rw [← bL_len, e]; rfl)
    have hse : ¬ s.toList = [] := by
      rw [ByteArray.toList_eq]; intro e
      have := congrArg List.length e
      rw [Array.length_toList] at this
      exact h0 this
    have hse2 : s.toList.isEmpty = false := by simpa using hse
    by_cases hb : 4000 < s.size
    · have hz : (RX, RB) = ([], false) := by rw [← HR.out, rawS, if_neg hl0, if_pos (by rw [bL_len]; exact hb)]
      simp only [Prod.mk.injEq] at hz
      obtain ⟨rfl, rfl⟩ := hz
      have hbi : (4000 : Int) < s.size := by omega
      clear HR h0 hl0
      go_enter Tryz.func5, Tryz.ntmps5
      go_wp2_with fail
      refine bodyPost_ret (v := .tuple #[.agg #[.slice none 0 0], .bool false]) (by simp [results, Tryz.results5, go_sem]) rfl ⟨none, 0, [], rfl, OwnShs.nil _ _ _ _, by ((repeat (first | (with_reducible exact Below.refl _ _) | (with_reducible assumption) | (with_reducible refine Below.alloc ?_ ?_ _) | (with_reducible refine Below.setCell ?_ ?_ _) | (with_reducible refine Below.drew ?_) | (with_reducible refine below_setRow ?_ ?_ _) | (refine Below.trans ?_ (Below.mono (by assumption) ?_)))); all_goals (first | omega | (simp; done) | (simp; omega)))⟩
    · have hbi : ¬ (4000 : Int) < s.size := by omega
      obtain ⟨ws, hws⟩ : ∃ ws, partsL 59 (bL s) = ws := ⟨_, rfl⟩
      have hwl : ws.length ≤ 4001 := by rw [← hws]; have := partsL_len 59 (bL s); rw [bL_len] at this; omega
      have hwx : ∀ x ∈ ws, x.length ≤ 4000 := by
        rw [← hws]; intro x hx
        have := partsL_le hx
        rw [bL_len] at this; omega
      have hRR : (RX, RB) = match rawsS ws with | some xs => if rawTextL xs = bL s then (xs, true) else ([], false) | none => ([], false) := by rw [← HR.out, rawS, if_neg hl0, if_neg (by rw [bL_len]; exact hb), hws] <;> (cases rawsS ws <;> rfl)
      have hsz : ∀ xs, rawsS ws = some xs → xs.length ≤ 4001 ∧ fldSum xs ≤ 4000 := fun xs e => by
        rw [← hws] at e
        have := rawsS_size e
        rw [bL_len] at this; omega
      have hparts : ∀ W : World, Calls Tryz.prog 16 #[.string s, .int .u8 59] W (FreshStrs W ws) := fun W => by
        have := specParts_any s 59 59 W (by decide) hs
        rw [hws] at this; exact this
      obtain ⟨Z, hZ⟩ : ∃ Z, rawsS ws = Z := ⟨_, rfl⟩
      rw [hZ] at hRR hsz
      have HRR := Lib.hid hRR; have HZ := Lib.hid hZ; have HSZ := Lib.hid hsz; have HWX := Lib.hid hwx; clear hRR HR hZ hsz hwx hws h0 hl0 hb
      obtain ⟨n, hn⟩ : ∃ n, ws.length = n := ⟨_, rfl⟩
      obtain ⟨i0, hi, hF0, hF1, hF2⟩ := info_parts info_RrF
      obtain ⟨i1, hj, hj0, hj1, hj2⟩ := info_parts info_RrM
      go_enter Tryz.func5, Tryz.ntmps5
      go_wp2_with fail
      refine (hparts _).mono ?_
      rintro r w1 ⟨g, cap, rfl, ho, hb1⟩
      have hz1' := hb1.size
      simp only [World.size_alloc] at hz1' ho
      have hR_ : w1.heap[w.heap.size]? = some (.cells #[.slice none 0 0] 24 (0, 0)) := (hb1.block _ (by simp; omega)).trans (hset_alloc (hset_new rfl))
      have hO_ : w1.heap[w.heap.size + 1]? = some (.cells #[.slice none 0 0] 24 (0, 0)) := (hb1.block _ (by simp)).trans (hset_new (by simp))
      have hbw : Below w.heap.size w w1 := (((Below.refl _ _).alloc (Nat.le_refl _) _).alloc (by simp) _).trans (hb1.mono (by simp; omega))
      rw [hn] at ho ⊢
      have HN := Lib.hid hn
      clear hb1 hparts
      go_wp2_with fail
      go_loopw [6] (fun i wr => ∃ k : Nat, k ≤ n ∧ i = .int .i64 k ∧ (∃ v rs ys, OwnShs wr (w.heap.size + 1 + 1) 40 44 v k rs ys ∧ wr.heap[w.heap.size + 1]? = some (.cells #[v] 24 (0, 0)) ∧ Hid ((rawsS (ws.drop k)).map (ys ++ ·) = Z)) ∧ wr.heap[w.heap.size]? = some (.cells #[.slice none 0 0] 24 (0, 0)) ∧ wr.ownsRow (w.heap.size + 1 + 1) 9 1 (.slice (some ⟨g, 0, none⟩) n cap) n (strRowP ws) ∧ Below w.heap.size w wr) (fun i _ => n - (intOf i).toNat)
      case atStart => exact ⟨0, Nat.zero_le _, rfl, ⟨.slice none 0 0, [], [], OwnShs.nil _ _ _ _, hO_, Lib.hid (by rw [List.drop_zero, HZ.out]; cases Z <;> simp)⟩, hR_, ho, hbw⟩
      case round =>
        clear hO_ hR_ ho hbw
        obtain ⟨k, hk, rfl, ⟨v, rs, ys, ho, hO, hq⟩, hR, hrow, hb⟩ := hrel
        have hz := hb.size
        have hOl := box_lt hO
        have kO := box_cells hO 0; have fO := box_frozen hO 0; have kR := box_cells hR 0; have fR := box_frozen hR 0
        simp only [List.getElem?_toArray, List.getElem?_cons_zero] at kO kR
        have HO := Lib.hid ho; have HOx := Lib.hid hO; have HRx := Lib.hid hR; have HWS := Lib.hid hrow; clear ho hO hR hrow
        by_cases hlt : k < n
        · obtain ⟨x, hx, hxm⟩ := at_lt (xs := ws) (k := k) (by rw [HN.out]; exact hlt)
          have hgl := (HWS.out.lt g rfl).2
          have c0 : wr.cell? ⟨g, k, none⟩ = some (.string ⟨x.toArray⟩) := own_cell HWS.out hx
          have hxl := HWX.out x hxm
          obtain ⟨wo, hwo⟩ : ∃ wo : World, wo = wr := ⟨_, rfl⟩
          rw [← hwo] at HO HOx HRx HWS hb hz hOl kO fO kR fR hgl c0 ⊢
          clear hwo
          have hdr : ws.drop k = x :: ws.drop (k + 1) := (List.getElem?_eq_some_iff.1 hx).2 ▸ List.drop_eq_getElem_cons _
          rw [hdr] at hq
          have HQ := Lib.hid hq.out; clear hq hdr hx hxm
          obtain ⟨two, h2⟩ : ∃ two, partsL 58 x = two := ⟨_, rfl⟩
          have hp2 : ∀ W : World, Calls Tryz.prog 16 #[.string ⟨x.toArray⟩, .int .u8 58] W (FreshStrs W two) := fun W => by
            have := specParts_any ⟨x.toArray⟩ 58 58 W (by decide) (by simp [ByteArray.size]; omega)
            rw [← h2]; exact this
          have hlc : (k : Int) < (n : Int) := by omega
          go_wp2_with fail
          refine (hp2 _).mono ?_
          rintro r w2 ⟨g2, cap2, rfl, ho2, hb2⟩
          have hz2 := hb2.size
          have hR2 := (hb2.block w.heap.size (by omega)).trans HRx.out
          have hO2 := (hb2.block (w.heap.size + 1) hOl).trans HOx.out
          have hT2 : Below w.heap.size w w2 := hb.trans (hb2.mono hz)
          clear hp2 kO fO kR fR
          by_cases hl2 : two.length = 2
          · obtain ⟨a, b, rfl⟩ : ∃ a b, two = [a, b] := by
              match two, hl2 with
              | [a, b], _ => exact ⟨a, b, rfl⟩
            have hms := msgS_two h2
            have hab : a.length ≤ 4000 ∧ b.length ≤ 4000 := ⟨Nat.le_trans (partsL_le (c := 58) (l := x) (by rw [h2]; simp)) hxl, Nat.le_trans (partsL_le (c := 58) (l := x) (by rw [h2]; simp)) hxl⟩
            obtain ⟨hal, hbl⟩ := hab
            obtain ⟨M, hM⟩ : ∃ M, w2.heap.size = M := ⟨_, rfl⟩
            have hg2 := (ho2.lt g2 rfl).2
            have q0 := own_cell ho2 (j := 0) (l := a) rfl
            have q1 := own_cell ho2 (j := 1) (l := b) rfl
            obtain ⟨E, hE⟩ : ∃ E, wordsS b = E := ⟨_, rfl⟩
            obtain ⟨Y, hY⟩ : ∃ Y, readAll E = Y := ⟨_, rfl⟩
            obtain ⟨id, hid⟩ : ∃ id, numD a = id := ⟨_, rfl⟩
            rw [hE, hid, hY] at hms
            have hnum : ∀ W : World, Calls Tryz.prog 17 #[.string ⟨a.toArray⟩] W fun r w' => r = .returned (.tuple #[.int .i64 id, .bool (numUpto 999999999 a).isSome]) ∧ Below W.heap.size W w' := fun W => by
              have := specNumber_any ⟨a.toArray⟩ W
              rw [← hid]; exact this
            obtain ⟨wd, hwd⟩ : ∃ wd, partsL 44 b = wd := ⟨_, rfl⟩
            have hp4 : ∀ W : World, Calls Tryz.prog 16 #[.string ⟨b.toArray⟩, .int .u8 44] W (FreshStrs W wd) := fun W => by
              have := specParts_any ⟨b.toArray⟩ 44 44 W (by decide) (by simp [ByteArray.size]; omega)
              rw [← hwd]; exact this
            have HMS := Lib.hid hms; have HR2 := Lib.hid hR2; have HO2 := Lib.hid hO2; have HEW := Lib.hid hE; have HYY := Lib.hid hY
            have HSo := Lib.hid (HO.out.below hb2 (Nat.le_refl _)); have HW2 := Lib.hid (owns_below HWS.out hb2 (Nat.le_refl _))
            clear hms hR2 hO2 hE hY hid ho2 h2 hl2 c0
            have hgM : ¬ g2 = M := by omega
            have hgM2 : ¬ M = g2 := by omega
            have hgMl : g2 < M := by omega
            go_wp2_with fail
            refine (hnum _).mono ?_
            rintro r w3 ⟨rfl, hb3⟩
            have hz3 := hb3.size
            simp only [World.size_alloc] at hz3
            have hM3 := (hb3.block w2.heap.size (by simp)).trans (hset_new (o := .cells #[.int .i64 0, .slice none 0 0] 40 (0, 0)) rfl)
            rw [hM] at hM3 hz3
            have kM := box_cells hM3; have fM := box_frozen hM3; have lM := box_lt hM3
            have q13 : w3.cell? ⟨g2, 1, none⟩ = some (.string ⟨b.toArray⟩) := (hb3.cell (p := ⟨g2, 1, none⟩) (by simp; omega)).trans ((Below.cell (B := w2.heap.size) ((Below.refl _ _).alloc (Nat.le_refl _) _) (p := ⟨g2, 1, none⟩) hg2).trans q1)
            have hg23 : g2 < w3.heap.size := by omega
            have HM3 := Lib.hid hM3
            have hB3 : Below M w2 w3 := ((Below.refl w2.heap.size w2).alloc (Nat.le_refl _) (.cells #[.int .i64 0, .slice none 0 0] 40) |>.trans (hb3.mono (by simp))).mono (by omega)
            clear hM3 hb3 hnum q0
            simp only [hM]
            go_wp2_with fail
            refine (hp4 _).mono ?_
            rintro r w4 ⟨g3, cap3, rfl, ho4, hb4⟩
            have hz4 := hb4.size
            simp only [World.size_setCell] at hz4 ho4
            have hM3 : (w3.setCell ⟨M, 0, none⟩ (.int .i64 id)).heap[M]? = some (.cells #[.int .i64 id, .slice none 0 0] 40 (0, 0)) := by
              apply hset_eq (hset_set HM3.out); simp only [List.setIfInBounds_toArray, List.set_cons_zero, List.set_cons_succ]
            have hM4 := (hb4.block M (by simp; omega)).trans hM3
            have hB4 : Below M w2 w4 := (hB3.setCell (Nat.le_refl _) _).trans (hb4.mono (by simp; omega))
            have q14 : w4.cell? ⟨g2, 1, none⟩ = some (.string ⟨b.toArray⟩) := (hB4.cell (p := ⟨g2, 1, none⟩) hgMl).trans (by
              have h1 := hB3.cell (p := ⟨g2, 1, none⟩) hgMl
              rw [← h1]; exact q13)
            have hq4 := owns_le ho4 (show M + 1 ≤ w3.heap.size by omega)
            obtain ⟨nw, hnw⟩ : ∃ nw, wd.length = nw := ⟨_, rfl⟩
            rw [hnw] at hq4 ⊢
            have HNW := Lib.hid hnw
            clear hM3 hb4 ho4 q13 kM fM lM HM3 hB3 hp4 hnw
            go_wp2_with fail
            go_loopw [10] (fun j wi => ∃ q : Nat, q ≤ E.length ∧ j = .int .i64 q ∧ (∃ v' fs, wi.heap[M]? = some (.cells #[.int .i64 id, v'] 40 (0, 0)) ∧ wi.ownsRow (M + 1) 44 5 v' q (fs.flatMap Fld.cs) ∧ fs.length = q ∧ Hid ((readAll (E.drop q)).map (fs ++ ·) = Y)) ∧ wi.ownsRow (M + 1) 9 1 (.slice (some ⟨g3, 0, none⟩) nw cap3) nw (strRowP wd) ∧ Below M w2 wi ∧ M < wi.heap.size) (fun j _ => E.length - (intOf j).toNat)
            case atStart => exact ⟨0, Nat.zero_le _, rfl, ⟨.slice none 0 0, [], hM4, World.ownsRow_nil _ _ _ _, rfl, Lib.hid (by rw [List.drop_zero, HYY.out]; cases Y <;> simp)⟩, hq4, hB4, by omega⟩
            case round =>
              clear hM4 hq4 hB4 q14
              obtain ⟨q, hq, rfl, ⟨v', fs, hM', ho', hfl, hy⟩, hrow', hbi, hMl⟩ := hrel
              obtain ⟨wi, hwi⟩ : ∃ wi : World, wi = wr := ⟨_, rfl⟩
              rw [← hwi] at hM' ho' hrow' hbi hMl ⊢
              clear hwi
              have kM := box_cells hM'; have fM := box_frozen hM'
              have hzi := hbi.size
              have hg3 := (hrow'.lt g3 rfl).2
              have hg3M := (hrow'.lt g3 rfl).1
              have hgi : g2 < wi.heap.size := by omega
              have q1i : wi.cell? ⟨g2, 1, none⟩ = some (.string ⟨b.toArray⟩) := (hbi.cell (p := ⟨g2, 1, none⟩) hgMl).trans q1
              have HMi := Lib.hid hM'; have HVi := Lib.hid ho'; have HWi := Lib.hid hrow'; have HYi := Lib.hid hy.out; clear hM' ho' hrow' hy
              by_cases hlq : q < E.length
              · have hEb := HEW.out
                have hbe : b ≠ [] := by rintro rfl; rw [wordsS, if_pos rfl] at hEb; rw [← hEb] at hlq; simp at hlq
                have hEw : E = wd := by rw [← hEb, wordsS, if_neg hbe, hwd]
                obtain ⟨y, hyq, hym⟩ := at_lt (xs := E) (k := q) hlq
                have cy : wi.cell? ⟨g3, q, none⟩ = some (.string ⟨y.toArray⟩) := own_cell HWi.out (by rw [← hEw]; exact hyq)
                have hyl : y.length ≤ 4000 := by rw [hEw, ← hwd] at hym; exact Nat.le_trans (partsL_le hym) hbl
                have hdr : E.drop q = y :: E.drop (q + 1) := (List.getElem?_eq_some_iff.1 hyq).2 ▸ List.drop_eq_getElem_cons _
                have hHY := HYi.out
                rw [hdr] at hHY
                have HHY := Lib.hid hHY; clear hHY HYi hdr
                have hqn : (q : Int) < (nw : Int) := by have := HNW.out; rw [← hEw] at this; omega
                have hlE : E.length ≤ 4001 := by rw [hEw, ← hwd]; exact Nat.le_trans (partsL_len _ _) (by omega)
                have e3 : ((⟨b.toArray⟩ : ByteArray).toList.isEmpty) = false := by rw [ByteArray.toList_eq]; simpa using hbe
                have e4 : b.isEmpty = false := by simpa using hbe
                obtain ⟨⟨f, okf⟩, hfr⟩ : ∃ R, readS y = R := ⟨_, rfl⟩
                have hrf : ∀ W : World, Calls Tryz.prog 18 #[.string ⟨y.toArray⟩] W fun r w' => r = .returned (.tuple #[f.val, .bool okf]) ∧ Below W.heap.size W w' := fun W => by
                  have := specReadField_any ⟨y.toArray⟩ W (by simp [ByteArray.size]; omega)
                  rw [show bL (⟨y.toArray⟩ : ByteArray) = y by simp [bL], hfr] at this; exact this
                have HFR := Lib.hid hfr; clear hfr hEb hEw hyq hym
                obtain ⟨fn, fk, frp, fp, fm⟩ := f
                simp only [Fld.val] at hrf
                go_wp2_with fail
                refine (hrf _).mono ?_
                rintro r w5 ⟨rfl, hb5⟩
                have hz5 := hb5.size
                have hM5 := (hb5.block M hMl).trans HMi.out
                have HV5 := Lib.hid (owns_below HVi.out hb5 (Nat.le_refl _)); have HW5 := Lib.hid (owns_below HWi.out hb5 (Nat.le_refl _))
                have hB5 : Below M w2 w5 := hbi.trans (hb5.mono (by omega))
                have kM := box_cells hM5; have fM := box_frozen hM5; have hMl5 := box_lt hM5
                have HM5 := Lib.hid hM5; clear hM5 hb5 q1i cy hrf
                cases okf
                · have hYn : Y = none := by rw [← HHY.out]; exact readAll_none (by rw [HFR.out])
                  have hmn : msgS x = none := by rw [HMS.out, hYn]; rfl
                  have hnone : Z = none := by rw [← HQ.out]; exact raws_none hmn
                  have hz3 : (RX, RB) = ([], false) := by rw [HRR.out, hnone]
                  simp only [Prod.mk.injEq] at hz3
                  obtain ⟨rfl, rfl⟩ := hz3
                  have hR5 := (hB5.block w.heap.size (by omega)).trans HR2.out
                  have kR := box_cells hR5 0; have fR := box_frozen hR5 0; have lR := box_lt hR5
                  simp only [List.getElem?_toArray, List.getElem?_cons_zero] at kR
                  have hT5 : Below w.heap.size w w5 := hT2.trans (hB5.mono (by omega))
                  have HR5 := Lib.hid hR5; clear hR5
                  go_wp2_with fail
                  refine bodyPost_ret (v := .tuple #[.agg #[.slice none 0 0], .bool false]) (by simp [results, Tryz.results5, go_sem, kR, lR]) rfl ⟨none, 0, [], rfl, OwnShs.nil _ _ _ _, ?_⟩
                  exact (hT5.setCell (Nat.le_refl _) _).alloc (by have := hT5.size; simp; omega) _
                · go_wp2_with (first | (at_builtin; refine wpList_append_own _ rfl _ _ 38 rfl (M + 1) 44 i0 _ 5 32 Tryz.underlying38 hi hF0 hF1 hF2 rfl (by decide) v' q (fs.flatMap Fld.cs) rfl (owns_below HV5.out (show Below w5.heap.size w5 _ from by ((repeat (first | (with_reducible exact Below.refl _ _) | (with_reducible assumption) | (with_reducible refine Below.alloc ?_ ?_ _) | (with_reducible refine Below.setCell ?_ ?_ _) | (with_reducible refine Below.drew ?_) | (with_reducible refine below_setRow ?_ ?_ _) | (refine Below.trans ?_ (Below.mono (by assumption) ?_)))); all_goals (first | omega | (simp; done) | (simp; omega)))) (Nat.le_refl _)) ⟨w5.heap.size + 1, 0, none⟩ 1 1 [.int .i64 fn, .int .i64 fk, .bool frp, .bool fp, .int .i64 fm] rfl rfl (World.news_of_block (cs := #[.int .i64 fn, .int .i64 fk, .bool frp, .bool fp, .int .i64 fm]) (t := 44) (fr := (0, 0)) (hset_new (by simp))) (by simp [Value.oneCell']) (by unfold maxLen; omega) (by omega) (by simp; omega) ?_; intro v2 w6 hown2 hgr2 _; obtain ⟨a5, cap5, rfl, _⟩ := own_sh hown2; have hsz2 := hgr2.size; simp only [World.size_alloc] at hsz2; have hM6 := (hgr2.block M (by simp; omega) (fun e => by have := (HV5.out.lt _ e.symm).1; omega)).trans (hset_alloc (hset_alloc HM5.out)); have kM6 := box_cells hM6; have fM6 := box_frozen hM6; have hMl6 := box_lt hM6; have HM6 := Lib.hid hM6; clear hM6 kM fM; have HG6 := Lib.hid hgr2; have HV6 := Lib.hid hown2; clear hgr2 hown2))
                  have hal : Below w5.heap.size w5 ((w5.alloc (.cells #[.int .i64 fn, .int .i64 fk, .bool frp, .bool fp, .int .i64 fm] 44)).alloc (.cells #[.int .i64 fn, .int .i64 fk, .bool frp, .bool fp, .int .i64 fm] 44)) := ((Below.refl _ _).alloc (Nat.le_refl _) _).alloc (by simp) _
                  have HV5a := Lib.hid (owns_below HV5.out hal (Nat.le_refl _)); have HW5a := Lib.hid (owns_below HW5.out hal (Nat.le_refl _))
                  have hB6 : Below M w2 w6 := below_grown (hB5.trans (hal.mono (by omega))) HG6.out (fun g e => by have := (HV5.out.lt g e).1; omega) (by simp; omega)
                  have hYn : (readAll (E.drop (q + 1))).map ((fs ++ [⟨fn, fk, frp, fp, fm⟩]) ++ ·) = Y := by rw [← HHY.out]; exact (readAll_step HFR.out).symm
                  have HYn := Lib.hid hYn; clear hYn hal
                  go_roundw
                  case rel =>
                    refine ⟨q + 1, by omega, by go_num, ⟨.slice a5 (q + 1) cap5, fs ++ [⟨fn, fk, frp, fp, fm⟩], ?_, ?_, by simp [hfl], HYn⟩, ?_, ?_, by simp; omega⟩
                    · apply hset_eq (hset_set HM6.out); simp only [List.setIfInBounds_toArray, List.set_cons_zero, List.set_cons_succ]
                    · rw [fld_snocR]; exact owns_keep HV6.out (only_set _ _ _ _) (other_box HM6.out (by decide))
                    · exact owns_keep (owns_keep HW5a.out HG6.out (other_own HV5a.out (by decide))) (only_set _ _ _ _) (other_box HM6.out (by decide))
                    · exact hB6.setCell (Nat.le_refl _) _
                  case measure => simp [intOf]; omega
              · have hqe : q = E.length := by omega
                obtain ⟨a4, cap4, rfl, _⟩ := own_sh HVi.out
                have hYs : Y = some fs := by rw [← HYi.out, hqe, List.drop_of_length_le (Nat.le_refl _)]; simp [readAll]
                have hms : msgS x = some ⟨id, fs⟩ := by rw [HMS.out, hYs]; rfl
                have hQn : (rawsS (ws.drop (k + 1))).map ((ys ++ [⟨id, fs⟩]) ++ ·) = Z := by rw [← HQ.out]; exact (raws_step hms).symm
                have HQn := Lib.hid hQn; clear hQn hms hYs
                have hOi := (hbi.block (w.heap.size + 1) (by omega)).trans HO2.out
                have hRi := (hbi.block w.heap.size (by omega)).trans HR2.out
                have kO := box_cells hOi 0; have fO := box_frozen hOi 0; have lO := box_lt hOi
                simp only [List.getElem?_toArray, List.getElem?_cons_zero] at kO
                have HOi := Lib.hid hOi; have HRi := Lib.hid hRi; clear hOi hRi
                have HSi := Lib.hid (HSo.out.below hbi (Nat.le_of_eq hM))
                have HRow := Lib.hid (show RowIs wi (w.heap.size + 1 + 1) 44 ⟨id, a4, q, cap4⟩ ⟨id, fs⟩ from ⟨rfl, by simp [hfl], owns_le HVi.out (by omega)⟩)
                have HAP := Lib.hid (fresh_apart (r := ⟨id, a4, q, cap4⟩) HSo.out (show w2.heap.size ≤ M + 1 by omega) HVi.out)
                have HWwi := Lib.hid (owns_below HW2.out hbi (Nat.le_of_eq hM))
                have hTi : Below w.heap.size w wi := hT2.trans (hbi.mono (by omega))
                have hk4 : k ≤ 4001 := by omega
                have hexit : ((q : Int) < (nw : Int) ∧ b.isEmpty = true) ∨ ((¬ (q : Int) < (nw : Int)) ∧ b.isEmpty = false) := by
                  have h1 := HEW.out
                  have h2 := HNW.out
                  by_cases hbe : b = []
                  · left
                    rw [wordsS, if_pos hbe] at h1
                    have : 0 < wd.length := by rw [← hwd]; exact List.length_pos_iff.2 (partsL_ne _ _)
                    rw [← h1] at hqe
                    exact ⟨by simp at hqe; omega, by rw [hbe]; rfl⟩
                  · right
                    rw [wordsS, if_neg hbe, hwd] at h1
                    rw [← h1] at hqe
                    exact ⟨by omega, by simpa using hbe⟩
                clear hfl hlq hqe
                have hqq : q ≤ E.length := hq
                rcases hexit with ⟨x1, x2⟩ | ⟨x1, x2⟩
                all_goals
                  go_wp2_with (first | (at_builtin; refine wpList_append_own _ rfl _ _ 22 rfl (w.heap.size + 1 + 1) 40 i1 _ 2 32 Tryz.underlying22 hj hj0 hj1 hj2 rfl (by decide) v k (rs.flatMap ShR.cs) rfl (HSi.out.alloc _).outer ⟨wi.heap.size, 0, none⟩ 1 1 [.int .i64 id, .slice a4 q cap4] rfl rfl (World.news_of_block (cs := #[.int .i64 id, .slice a4 q cap4]) (t := 40) (fr := (0, 0)) (hset_new rfl)) (by simp [Value.oneCell']) (by unfold maxLen; omega) (by omega) (by simp; omega) ?_; intro v2 w6 hown2 hgr2 _; obtain ⟨a5, cap5, rfl, _⟩ := own_sh hown2; have hsz2 := hgr2.size; simp only [World.size_alloc] at hsz2; have HP := Lib.hid ((HSi.out.alloc _).push (w' := w6) (by decide) (HRow.out.alloc _) HAP.out hown2 hgr2); have hO6 := (hgr2.block (w.heap.size + 1) (by simp; omega) (fun e => by have := (HSi.out.outer.lt _ e.symm).1; omega)).trans (hset_alloc HOi.out); have kO6 := box_cells hO6 0; have fO6 := box_frozen hO6 0; have lO6 := box_lt hO6; simp only [List.getElem?_toArray, List.getElem?_cons_zero] at kO6; have HO6 := Lib.hid hO6; have HG6 := Lib.hid hgr2; clear hO6 hown2 hgr2 kO fO))
                  have hR6 := (HG6.out.block w.heap.size (by simp; omega) (fun e => by have := (HSi.out.outer.lt _ e.symm).1; omega)).trans (hset_alloc HRi.out)
                  have hB6 : Below w.heap.size w w6 := below_grown (hTi.alloc (by omega) _) HG6.out (fun g e => by have := (HSi.out.outer.lt g e).1; omega) (by simp; omega)
                  have HWw := Lib.hid (owns_keep (owns_below HWwi.out (show Below wi.heap.size wi (wi.alloc (.cells #[.int .i64 id, .slice a4 q cap4] 40)) from (Below.refl _ _).alloc (Nat.le_refl _) _) (Nat.le_refl _)) HG6.out (other_own (HSi.out.alloc _).outer (by decide)))
                  go_roundw
                  case rel =>
                    refine ⟨k + 1, by omega, by go_num, ⟨.slice a5 (k + 1) cap5, rs ++ [⟨id, a4, q, cap4⟩], ys ++ [⟨id, fs⟩], ?_, ?_, HQn⟩, ?_, ?_, ?_⟩
                    · exact HP.out.set (by simp) _
                    · exact hset_same HO6.out rfl
                    · exact hset_other hR6 (by simp)
                    · exact owns_keep HWw.out (only_set _ _ _ _) (other_box HO6.out (by decide))
                    · exact hB6.setCell (by simp) _
                  case measure => simp [intOf]; omega
          · have hnone : Z = none := by rw [← HQ.out]; exact raws_none (msgS_bad (by rw [h2]; exact hl2))
            have hz3 : (RX, RB) = ([], false) := by rw [HRR.out, hnone]
            simp only [Prod.mk.injEq] at hz3
            obtain ⟨rfl, rfl⟩ := hz3
            have kR := box_cells hR2 0; have fR := box_frozen hR2 0; have lR := box_lt hR2
            simp only [List.getElem?_toArray, List.getElem?_cons_zero] at kR
            have hl2i : ¬ (two.length : Int) = 2 := by omega
            have HR2 := Lib.hid hR2; have HO2 := Lib.hid hO2; clear hR2 hO2 ho2 hb2 c0
            go_wp2_with fail
            refine bodyPost_ret (v := .tuple #[.agg #[.slice none 0 0], .bool false]) (by simp [results, Tryz.results5, go_sem, kR, lR]) rfl ⟨none, 0, [], rfl, OwnShs.nil _ _ _ _, hT2.setCell (Nat.le_refl _) _⟩
        · obtain rfl : k = n := by omega
          obtain ⟨a2, cap2, rfl, _⟩ := own_sh HO.out.outer
          have hZ2 : Z = some ys := by rw [← hq.out, List.drop_of_length_le (by rw [HN.out]; exact Nat.le_refl _)]; simp [rawsS]
          obtain ⟨hn2, hm2⟩ := HSZ.out ys hZ2
          obtain ⟨G, hG⟩ : ∃ G, rawTextL ys = G := ⟨_, rfl⟩
          have hcall : ∀ W, ShsL W a2 ys → Calls Tryz.prog 19 #[.agg #[.slice a2 k cap2]] W fun r w' => r = .returned (.string ⟨G.toArray⟩) ∧ Below W.heap.size W w' := fun W hW => by
            have := specRawText_any a2 cap2 k ys W hW HO.out.lenx (by omega) (by omega)
            rw [sB, hG] at this; exact this
          clear hq
          go_wp2_with fail
          refine (hcall _ HO.out.shsL).mono ?_
          rintro r w2 ⟨rfl, hb2⟩
          have hR2 := (hb2.block w.heap.size (by omega)).trans HRx.out
          have hO2 := (hb2.block (w.heap.size + 1) hOl).trans HOx.out
          have hT2 : Below w.heap.size w w2 := hb.trans (hb2.mono hz)
          have hs2 := OwnShs.below HO.out hb2 (Nat.le_refl _)
          have kO2 := box_cells hO2 0; have fO2 := box_frozen hO2 0; have kR2 := box_cells hR2 0; have fR2 := box_frozen hR2 0; have lR := box_lt hR2
          simp only [List.getElem?_toArray, List.getElem?_cons_zero] at kO2 kR2
          have HS2 := Lib.hid hs2; clear hs2 hcall kO fO kR fR hR2 hO2
          by_cases heq : G = bL s
          · have hRR2 : (RX, RB) = (ys, true) := by rw [HRR.out, hZ2]; simp only; rw [if_pos (by rw [hG, heq])]
            simp only [Prod.mk.injEq] at hRR2
            obtain ⟨rfl, rfl⟩ := hRR2
            have e1 : ((⟨G.toArray⟩ : ByteArray).toList == s.toList) = true := by rw [heq, ← str_of_bL]; simp
            have e2 : (G == s.toList) = true := by rw [ByteArray.toList_eq, heq]; simp [bL]
            clear heq hG
            go_wp2_with fail
            rw [HO.out.lenx]
            refine bodyPost_ret (v := .tuple #[.agg #[.slice a2 k cap2], .bool true]) (by simp [results, Tryz.results5, go_sem, kR2, lR]) rfl ⟨a2, cap2, rs, rfl, OwnShs.le (HS2.out.set (p := ⟨w.heap.size, 0, none⟩) (by simp only; omega) _) (by omega), hT2.setCell (Nat.le_refl _) _⟩
          · have hRR2 : (RX, RB) = ([], false) := by rw [HRR.out, hZ2]; simp only; rw [if_neg (by rw [hG]; exact heq)]
            simp only [Prod.mk.injEq] at hRR2
            obtain ⟨rfl, rfl⟩ := hRR2
            have e1 : ((⟨G.toArray⟩ : ByteArray).toList == s.toList) = false := by rw [beq_bytes, decide_eq_false]; intro e; apply heq; have := congrArg bL e; simpa [bL] using this
            have e2 : (G == s.toList) = false := by rw [ByteArray.toList_eq, beq_eq_false_iff_ne]; exact heq
            clear heq hG
            go_wp2_with fail
            refine bodyPost_ret (v := .tuple #[.agg #[.slice none 0 0], .bool false]) (by simp [results, Tryz.results5, go_sem, kR2, lR]) rfl ⟨none, 0, [], rfl, OwnShs.nil _ _ _ _, hT2.setCell (Nat.le_refl _) _⟩
end Go.Proofs.YtbjbgneiglopmaaGreatDoor

/- Texts that FnRawText leans on, part 3. (Put together by wip/tools/bundle.py.) -/
import Derived.Test.YtbjbgneiglopmaaGreatDoorFnRT1
import Derived.Test.YtbjbgneiglopmaaGreatDoorFnRT2
namespace Go.Proofs.YtbjbgneiglopmaaGreatDoor
set_option linter.unusedSimpArgs false
set_option linter.unusedVariables false
open Go.ChangeShapes Go.WideShapes Go.ChangeAt Go.RowKit Go.BigFrame
def hasNum (fs : List Fld) (n : Int) : Bool := fs.any fun f => f.number == n
def hasId (xs : List Shp) (i : Int) : Bool := xs.any fun x => x.id == i
theorem any_hit {α : Type} {p : α → Bool} {xs : List α} {k : Nat} {e : α} (he : xs[k]? = some e) (h : p e = true) : xs.any p = true := List.any_eq_true.2 ⟨e, List.mem_of_getElem? he, h⟩
theorem any_snoc {α : Type} {p : α → Bool} {xs : List α} {k : Nat} {e : α} (he : xs[k]? = some e) : (xs.take (k + 1)).any p = ((xs.take k).any p || p e) := by
  rw [List.take_add_one, he]; simp
set_option maxHeartbeats 2000000 in
theorem l6HasNumber_any (a : Option Addr) (cap n : Nat) (fs : List Fld) (x : Int) (w : World) (h : Flds w a fs) (hl : fs.length = n) (hn : n ≤ 1048576) :
    Calls Tryz.prog 73 #[.slice a n cap, .int .i64 x] w fun r w' => r = .returned (.bool (hasNum fs x)) ∧ Below w.heap.size w w' := by
  have HL := Lib.hid hl; clear hl
  obtain ⟨R, hR⟩ : ∃ R, hasNum fs x = R := ⟨_, rfl⟩
  rw [hR]
  have HR := Lib.hid hR; clear hR
  go_enter Tryz.func73, Tryz.ntmps73
  go_wp2
  go_loop [5] (fun i => ∃ k : Nat, k ≤ n ∧ i = .int .i64 k ∧ Hid ((fs.take k).any (fun f => f.number == x) = false)) (fun i => n - (intOf i).toNat)
  case atStart => exact ⟨0, Nat.zero_le _, rfl, Lib.hid (by simp)⟩
  case round =>
    obtain ⟨k, hk, rfl, HK⟩ := hrel
    by_cases hlt : k < n
    · obtain ⟨f, hf, _⟩ := at_lt (xs := fs) (k := k) (by rw [HL.out]; exact hlt)
      obtain ⟨b, off, rfl, hbl, d0, -⟩ := Flds.at h hf
      have HF := Lib.hid hf; clear hf
      cases hq : (f.number == x)
      · have HK2 := Lib.hid (show (fs.take (k + 1)).any (fun f => f.number == x) = false by rw [any_snoc HF.out, HK.out, hq]; rfl)
        go_wp2
        go_round
        case rel => exact ⟨k + 1, by omega, by go_num, HK2⟩
        case measure => simp [intOf]; omega
      · have HB := Lib.hid (show true = R by rw [← HR.out, hasNum, any_hit HF.out hq])
        go_wp2
        go_ret
        exact ⟨ret_bool HB.out, by ((repeat (first | (with_reducible exact Below.refl _ _) | (with_reducible assumption) | (with_reducible refine Below.alloc ?_ ?_ _) | (with_reducible refine Below.setCell ?_ ?_ _) | (with_reducible refine Below.drew ?_) | (with_reducible refine below_setRow ?_ ?_ _) | (refine Below.trans ?_ (Below.mono (by assumption) ?_)))); all_goals (first | omega | (simp; done) | (simp; omega)))⟩
    · have HB := Lib.hid (show false = R by rw [← HR.out, hasNum]; have := HK.out; rw [List.take_of_length_le (by rw [HL.out]; omega)] at this; exact this.symm)
      go_wp2
      go_ret
      exact ⟨ret_bool HB.out, by ((repeat (first | (with_reducible exact Below.refl _ _) | (with_reducible assumption) | (with_reducible refine Below.alloc ?_ ?_ _) | (with_reducible refine Below.setCell ?_ ?_ _) | (with_reducible refine Below.drew ?_) | (with_reducible refine below_setRow ?_ ?_ _) | (refine Below.trans ?_ (Below.mono (by assumption) ?_)))); all_goals (first | omega | (simp; done) | (simp; omega)))⟩
theorem Shs.at {w : World} {a : Option Addr} {xs : List Shp} (h : Shs w a xs) {k : Nat} {x : Shp} (hx : xs[k]? = some x) :
    ∃ b off a' cap', a = some ⟨b, off, none⟩ ∧ b < w.heap.size ∧ w.cell? ⟨b, off + k * 2, none⟩ = some (.int .i64 x.id) ∧ w.cell? ⟨b, off + k * 2 + 1, none⟩ = some (.slice a' x.flds.length cap') ∧ Flds w a' x.flds := h k x hx
set_option maxHeartbeats 2000000 in
theorem l6HasId_any (a : Option Addr) (cap n m : Nat) (xs : List Shp) (x : Int) (w : World) (h : Shs w a xs) (hl : xs.length = n) (hn : n ≤ 1048576) (hm : m ≤ n) :
    Calls Tryz.prog 80 #[.agg #[.slice a n cap], .int .i64 x, .int .i64 m] w fun r w' => r = .returned (.bool (hasId (xs.take m) x)) ∧ Below w.heap.size w w' := by
  have HL := Lib.hid hl; clear hl
  obtain ⟨R, hR⟩ : ∃ R, hasId (xs.take m) x = R := ⟨_, rfl⟩
  rw [hR]
  have HR := Lib.hid hR; clear hR
  go_enter Tryz.func80, Tryz.ntmps80
  go_wp2
  have hh : Shs (w.alloc (.cells #[.slice a n cap] 24)) a xs := h.keep (by ((repeat (first | (with_reducible exact Below.refl _ _) | (with_reducible assumption) | (with_reducible refine Below.alloc ?_ ?_ _) | (with_reducible refine Below.setCell ?_ ?_ _) | (with_reducible refine Below.drew ?_) | (with_reducible refine below_setRow ?_ ?_ _) | (refine Below.trans ?_ (Below.mono (by assumption) ?_)))); all_goals (first | omega | (simp; done) | (simp; omega))))
  have HH := Lib.hid hh; clear hh
  go_loop [7] (fun i => ∃ k : Nat, k ≤ m ∧ i = .int .i64 k ∧ Hid ((xs.take k).any (fun f => f.id == x) = false)) (fun i => m - (intOf i).toNat)
  case atStart => exact ⟨0, Nat.zero_le _, rfl, Lib.hid (by simp)⟩
  case round =>
    obtain ⟨k, hk, rfl, HK⟩ := hrel
    by_cases hlt : k < m
    · obtain ⟨f, hf, _⟩ := at_lt (xs := xs) (k := k) (by rw [HL.out]; omega)
      obtain ⟨b, off, a', cap', rfl, hbl, d0, -⟩ := Shs.at HH.out hf
      have hkn : k < n := by omega
      have HF := Lib.hid hf; clear hf
      cases hq : (f.id == x)
      · have HK2 := Lib.hid (show (xs.take (k + 1)).any (fun f => f.id == x) = false by rw [any_snoc HF.out, HK.out, hq]; rfl)
        go_wp2
        go_round
        case rel => exact ⟨k + 1, by omega, by go_num, HK2⟩
        case measure => simp [intOf]; omega
      · have HB := Lib.hid (show true = R by rw [← HR.out, hasId]; exact (any_hit (k := k) (e := f) (xs := xs.take m) (p := fun y => y.id == x) (by rw [List.getElem?_take, if_pos hlt]; exact HF.out) hq).symm)
        go_wp2
        go_ret
        exact ⟨ret_bool HB.out, by ((repeat (first | (with_reducible exact Below.refl _ _) | (with_reducible assumption) | (with_reducible refine Below.alloc ?_ ?_ _) | (with_reducible refine Below.setCell ?_ ?_ _) | (with_reducible refine Below.drew ?_) | (with_reducible refine below_setRow ?_ ?_ _) | (refine Below.trans ?_ (Below.mono (by assumption) ?_)))); all_goals (first | omega | (simp; done) | (simp; omega)))⟩
    · obtain rfl : k = m := by omega
      have HB := Lib.hid (show false = R by rw [← HR.out, hasId]; exact HK.out.symm)
      go_wp2
      go_ret
      exact ⟨ret_bool HB.out, by ((repeat (first | (with_reducible exact Below.refl _ _) | (with_reducible assumption) | (with_reducible refine Below.alloc ?_ ?_ _) | (with_reducible refine Below.setCell ?_ ?_ _) | (with_reducible refine Below.drew ?_) | (with_reducible refine below_setRow ?_ ?_ _) | (refine Below.trans ?_ (Below.mono (by assumption) ?_)))); all_goals (first | omega | (simp; done) | (simp; omega)))⟩
def msgC (xs : List Shp) (i : Nat) (x : Shp) : Int := if inB x.id 1 99 = false then 2 else if hasId (xs.take i) x.id = true then 3 else if 8 < x.flds.length then 4 else 0
set_option maxHeartbeats 2000000 in
theorem specMsgCode_any (a : Option Addr) (cap n i : Nat) (xs : List Shp) (x : Shp) (w : World) (h : Shs w a xs) (hl : xs.length = n) (hn : n ≤ 1048576) (hx : xs[i]? = some x) (hi : i < n) (hf : x.flds.length ≤ 1048576) :
    Calls Tryz.prog 58 #[.agg #[.slice a n cap], .int .i64 i] w fun r w' => r = .returned (.int .i64 (msgC xs i x)) ∧ Below w.heap.size w w' := by
  have HL := Lib.hid hl; clear hl
  obtain ⟨R, hR⟩ : ∃ R, msgC xs i x = R := ⟨_, rfl⟩
  rw [hR]
  have HR := Lib.hid hR; clear hR
  obtain ⟨b, off, a', cap', rfl, hbl, c0, c1, -⟩ := Shs.at h hx
  have HX := Lib.hid hx; clear hx
  have hb1 : inB (i : Int) 0 ((n : Int) - 1) = true := by simp only [inB, decide_eq_true_eq]; omega
  have hii : (i : Int) < (n : Int) := by omega
  have HH := Lib.hid h; clear h
  go_enter Tryz.func58, Tryz.ntmps58
  cases h1 : inB x.id 1 99
  · have HB := Lib.hid (show (2 : Int) = R by rw [← HR.out, msgC, if_pos h1])
    go_wp2_with (first | (go_at_call 64; refine (l1In_any _ _ _ _).mono ?_; rintro r w1 ⟨rfl, rfl⟩))
    go_ret
    exact ⟨ret_int HB.out, by ((repeat (first | (with_reducible exact Below.refl _ _) | (with_reducible assumption) | (with_reducible refine Below.alloc ?_ ?_ _) | (with_reducible refine Below.setCell ?_ ?_ _) | (with_reducible refine Below.drew ?_) | (with_reducible refine below_setRow ?_ ?_ _) | (refine Below.trans ?_ (Below.mono (by assumption) ?_)))); all_goals (first | omega | (simp; done) | (simp; omega)))⟩
  · go_wp2_with (first | (go_at_call 64; refine (l1In_any _ _ _ _).mono ?_; rintro r w1 ⟨rfl, rfl⟩))
    refine (l6HasId_any (some ⟨b, off, none⟩) cap n i xs x.id _ (HH.out.keep (by ((repeat (first | (with_reducible exact Below.refl _ _) | (with_reducible assumption) | (with_reducible refine Below.alloc ?_ ?_ _) | (with_reducible refine Below.setCell ?_ ?_ _) | (with_reducible refine Below.drew ?_) | (with_reducible refine below_setRow ?_ ?_ _) | (refine Below.trans ?_ (Below.mono (by assumption) ?_)))); all_goals (first | omega | (simp; done) | (simp; omega))))) HL.out hn (by omega)).mono ?_
    rintro r w2 ⟨rfl, hb2⟩
    have hM := (hb2.block (w.heap.size + 1) (by simp)).trans (hset_new (o := .cells #[.int .i64 x.id, .slice a' x.flds.length cap'] 40) (by simp))
    have kM := box_cells hM
    have hbw : Below w.heap.size w w2 := by ((repeat (first | (with_reducible exact Below.refl _ _) | (with_reducible assumption) | (with_reducible refine Below.alloc ?_ ?_ _) | (with_reducible refine Below.setCell ?_ ?_ _) | (with_reducible refine Below.drew ?_) | (with_reducible refine below_setRow ?_ ?_ _) | (refine Below.trans ?_ (Below.mono (by assumption) ?_)))); all_goals (first | omega | (simp; done) | (simp; omega)))
    clear hb2 hM
    cases h2 : hasId (xs.take i) x.id
    · by_cases h8 : 8 < x.flds.length
      · have HB := Lib.hid (show (4 : Int) = R by rw [← HR.out, msgC, if_neg (by rw [h1]; simp), if_neg (by rw [h2]; simp), if_pos h8])
        have h8' : (8 : Int) < (x.flds.length : Int) := by omega
        go_wp2
        go_ret
        exact ⟨ret_int HB.out, by ((repeat (first | (with_reducible exact Below.refl _ _) | (with_reducible assumption) | (with_reducible refine Below.alloc ?_ ?_ _) | (with_reducible refine Below.setCell ?_ ?_ _) | (with_reducible refine Below.drew ?_) | (with_reducible refine below_setRow ?_ ?_ _) | (refine Below.trans ?_ (Below.mono (by assumption) ?_)))); all_goals (first | omega | (simp; done) | (simp; omega)))⟩
      · have HB := Lib.hid (show (0 : Int) = R by rw [← HR.out, msgC, if_neg (by rw [h1]; simp), if_neg (by rw [h2]; simp), if_neg h8])
        have h8' : decide ((8 : Int) < (x.flds.length : Int)) = false := decide_eq_false (by omega)
        go_wp2
        go_ret
        exact ⟨ret_int HB.out, by ((repeat (first | (with_reducible exact Below.refl _ _) | (with_reducible assumption) | (with_reducible refine Below.alloc ?_ ?_ _) | (with_reducible refine Below.setCell ?_ ?_ _) | (with_reducible refine Below.drew ?_) | (with_reducible refine below_setRow ?_ ?_ _) | (refine Below.trans ?_ (Below.mono (by assumption) ?_)))); all_goals (first | omega | (simp; done) | (simp; omega)))⟩
    · have HB := Lib.hid (show (3 : Int) = R by rw [← HR.out, msgC, if_neg (by rw [h1]; simp), if_pos h2])
      go_wp2
      go_ret
      exact ⟨ret_int HB.out, by ((repeat (first | (with_reducible exact Below.refl _ _) | (with_reducible assumption) | (with_reducible refine Below.alloc ?_ ?_ _) | (with_reducible refine Below.setCell ?_ ?_ _) | (with_reducible refine Below.drew ?_) | (with_reducible refine below_setRow ?_ ?_ _) | (refine Below.trans ?_ (Below.mono (by assumption) ?_)))); all_goals (first | omega | (simp; done) | (simp; omega)))⟩
def ShsL (w : World) (a : Option Addr) (xs : List Shp) : Prop :=
  ∀ (k : Nat) (x : Shp), xs[k]? = some x → ∃ b off a' cap', a = some ⟨b, off, none⟩ ∧ b < w.heap.size ∧ w.cell? ⟨b, off + k * 2, none⟩ = some (.int .i64 x.id) ∧ w.cell? ⟨b, off + k * 2 + 1, none⟩ = some (.slice a' x.flds.length cap') ∧ Flds w a' x.flds ∧ x.flds.length ≤ cap'
theorem ShsL.shs {w : World} {a : Option Addr} {xs : List Shp} (h : ShsL w a xs) : Shs w a xs := fun k x hx => by
  obtain ⟨b, off, a', cap', h1, h2, h3, h4, h5, _⟩ := h k x hx
  exact ⟨b, off, a', cap', h1, h2, h3, h4, h5⟩
theorem ShsL.keep {w w' : World} {a : Option Addr} {xs : List Shp} (h : ShsL w a xs) (hb : Below w.heap.size w w') : ShsL w' a xs := fun k x hx => by
  obtain ⟨b, off, a', cap', h1, h2, h3, h4, h5, h6⟩ := h k x hx
  exact ⟨b, off, a', cap', h1, Nat.lt_of_lt_of_le h2 hb.size, (hb.cell (p := ⟨b, _, none⟩) h2).trans h3, (hb.cell (p := ⟨b, _, none⟩) h2).trans h4, Sl.keep h5 hb, h6⟩
theorem own_lecapR {w : World} {base n cap size : Nat} {t : TypeId} {a : Option Addr} {L : List Value} (h : w.ownsRow base t size (.slice a n cap) n L) : n ≤ cap := by
  rcases h.2 with ⟨e, h0⟩ | ⟨g, c, cur, e, _, _, hc, _⟩
  · simp only [Value.slice.injEq] at e; omega
  · simp only [Value.slice.injEq] at e; omega
theorem OwnShs.shsL {w : World} {base : Nat} {T TF : TypeId} {a : Option Addr} {n cap : Nat} {rs : List ShR} {xs : List Shp} (h : OwnShs w base T TF (.slice a n cap) n rs xs) : ShsL w a xs := by
  intro k x hx
  have hk : k < xs.length := by
    rcases Nat.lt_or_ge k xs.length with h | h
    · exact h
    · rw [List.getElem?_eq_none h] at hx; simp at hx
  have hkr : k < rs.length := by rw [h.len, ← h.lenx]; exact hk
  obtain ⟨a1, cap1, e, _, _, hs⟩ := Sl.of_owns shR_len h.outer h.len
  simp only [Value.slice.injEq] at e
  obtain ⟨rfl, _, rfl⟩ := e
  obtain ⟨b, off, ha, hlt, hc⟩ := hs k rs[k] (List.getElem?_eq_getElem hkr)
  obtain ⟨h1, h2, h3⟩ := h.each k rs[k] x (List.getElem?_eq_getElem hkr) hx
  have c0 := hc 0 _ rfl
  have c1 := hc 1 _ rfl
  rw [h1] at c0
  rw [h2] at c1 h3
  exact ⟨b, off, rs[k].a, rs[k].cap, ha, hlt, c0, c1, flds_of_own h3 rfl, own_lecapR h3⟩
theorem flds_take {w : World} {a : Option Addr} {fs : List Fld} (h : Flds w a fs) (k : Nat) : Flds w a (fs.take k) := fun j e he => h j e (by
  rw [List.getElem?_take] at he
  split at he
  · exact he
  · simp at he)
def refBad (xs : List Shp) (f : Fld) : Bool := if f.kind = 8 then !hasId xs f.msg else !(f.msg == 0)
def fldC (xs : List Shp) (fs : List Fld) (k : Nat) (f : Fld) : Int :=
  if numOk f.number = false then 5 else if hasNum (fs.take k) f.number = true then 6 else if inB f.kind 1 8 = false then 7 else if packOk f = false then 8
  else if refBad xs f = true then 9 else 0
set_option maxRecDepth 100000 in
set_option maxHeartbeats 4000000 in
theorem specFieldCode_any (a : Option Addr) (cap n i k : Nat) (xs : List Shp) (x : Shp) (f : Fld) (w : World) (h : ShsL w a xs) (hl : xs.length = n) (hn : n ≤ 1048576) (hx : xs[i]? = some x) (hi : i < n) (hfl : x.flds.length ≤ 1048576) (hf : x.flds[k]? = some f) (hk : k < x.flds.length) :
    Calls Tryz.prog 59 #[.agg #[.slice a n cap], .int .i64 i, .int .i64 k] w fun r w' => r = .returned (.int .i64 (fldC xs x.flds k f)) ∧ Below w.heap.size w w' := by
  have HL := Lib.hid hl; clear hl
  obtain ⟨R, hR⟩ : ∃ R, fldC xs x.flds k f = R := ⟨_, rfl⟩
  rw [hR]
  have HR := Lib.hid hR; clear hR
  obtain ⟨b, off, a', cap', rfl, hbl, c0, c1, hfs, hcp⟩ := h i x hx
  obtain ⟨b2, off2, rfl, hbl2, d0, d1, d2, d3, d4⟩ := Flds.at hfs hf
  have HX := Lib.hid hx; clear hx
  have HF := Lib.hid hf; clear hf
  have HFS := Lib.hid hfs; clear hfs
  have hb1 : inB (i : Int) 0 ((n : Int) - 1) = true := by simp only [inB, decide_eq_true_eq]; omega
  have hb2' : inB (k : Int) 0 ((x.flds.length : Int) - 1) = true := by simp only [inB, decide_eq_true_eq]; omega
  have hii : (i : Int) < (n : Int) := by omega
  have hki : (k : Int) < (x.flds.length : Int) := by omega
  have hkc : (k : Int) ≤ (cap' : Int) := by omega
  have hk0 : (0 : Int) ≤ (k : Int) := by omega
  have HH := Lib.hid h.shs; clear h
  go_enter Tryz.func59, Tryz.ntmps59
  cases h1 : numOk f.number
  · have HB := Lib.hid (show (5 : Int) = R by rw [← HR.out, fldC, if_pos h1])
    go_wp2_with (first | (go_at_call 64; refine (l1In_any _ _ _ _).mono ?_; rintro r w1 ⟨rfl, rfl⟩) | (go_at_call 81; refine (specNumberOk_any _ _).mono ?_; rintro r w1 ⟨rfl, rfl⟩))
    go_ret
    exact ⟨ret_int HB.out, by ((repeat (first | (with_reducible exact Below.refl _ _) | (with_reducible assumption) | (with_reducible refine Below.alloc ?_ ?_ _) | (with_reducible refine Below.setCell ?_ ?_ _) | (with_reducible refine Below.drew ?_) | (with_reducible refine below_setRow ?_ ?_ _) | (refine Below.trans ?_ (Below.mono (by assumption) ?_)))); all_goals (first | omega | (simp; done) | (simp; omega)))⟩
  · go_wp2_with (first | (go_at_call 64; refine (l1In_any _ _ _ _).mono ?_; rintro r w1 ⟨rfl, rfl⟩) | (go_at_call 81; refine (specNumberOk_any _ _).mono ?_; rintro r w1 ⟨rfl, rfl⟩))
    have HF2 : ∀ W x0 : World, Below w.heap.size w W → Flds (World.ext W x0) (some ⟨b2, off2, none⟩) (x.flds.take k) := fun W x0 hW => Sl.keep (Sl.keep (flds_take HFS.out k) hW) (World.ext_below _ _)
    have HF3 := Lib.hid HF2; clear HF2
    have HKl := Lib.hid (show (x.flds.take k).length = k by rw [List.length_take]; omega)
    (refine wp_region_ext (by kernel_rfl) (by kernel_rfl) ?_; (repeat (go_big_quiet_step (first | (go_at_call 73; refine Calls.ext_of (l6HasNumber_any (some ⟨b2, off2, none⟩) cap' k (x.flds.take k) f.number _ (HF3.out _ _ (by ((repeat (first | (with_reducible exact Below.refl _ _) | (with_reducible assumption) | (with_reducible refine Below.alloc ?_ ?_ _) | (with_reducible refine Below.setCell ?_ ?_ _) | (with_reducible refine Below.drew ?_) | (with_reducible refine below_setRow ?_ ?_ _) | (refine Below.trans ?_ (Below.mono (by assumption) ?_)))); all_goals (first | omega | (simp; done) | (simp; omega))))) HKl.out (by omega)))))); refine wpQuiet_nil ?_; intro w2 hb2; obtain ⟨hc2, hf2⟩ := bcell hb2; have hz2 := hb2.size; (try simp only [World.size_alloc, World.size_setCell, World.size_drew] at hz2); have hy2_0 : w.heap.size < w2.heap.size := by omega)
    have hA_ := (hb2.block w.heap.size (by simp; omega)).trans (hset_alloc (hset_new (o := .cells #[.slice (some ⟨b, off, none⟩) n cap] 24) rfl))
    have hG_ := (hb2.block (w.heap.size + 1) (by simp)).trans (hset_new (o := .cells #[.int .i64 f.number, .int .i64 f.kind, .bool f.rep, .bool f.packed, .int .i64 f.msg] 44) (by simp))
    have kA := box_cells hA_; have kG := box_cells hG_; have hlG := box_lt hG_; have hlA := box_lt hA_; have HGx := Lib.hid hG_
    have hbw : Below w.heap.size w w2 := by ((repeat (first | (with_reducible exact Below.refl _ _) | (with_reducible assumption) | (with_reducible refine Below.alloc ?_ ?_ _) | (with_reducible refine Below.setCell ?_ ?_ _) | (with_reducible refine Below.drew ?_) | (with_reducible refine below_setRow ?_ ?_ _) | (refine Below.trans ?_ (Below.mono (by assumption) ?_)))); all_goals (first | omega | (simp; done) | (simp; omega)))
    clear hb2 hA_ hG_ hc2 hf2
    cases h2 : hasNum (x.flds.take k) f.number
    · cases h3 : inB f.kind 1 8
      · have HB := Lib.hid (show (7 : Int) = R by rw [← HR.out, fldC, if_neg (by rw [h1]; simp), if_neg (by rw [h2]; simp), if_pos h3])
        go_wp2_with (first | (go_at_call 63; refine (l6Kind_any _ _).mono ?_; rintro r w1 ⟨rfl, rfl⟩))
        go_ret
        exact ⟨ret_int HB.out, by ((repeat (first | (with_reducible exact Below.refl _ _) | (with_reducible assumption) | (with_reducible refine Below.alloc ?_ ?_ _) | (with_reducible refine Below.setCell ?_ ?_ _) | (with_reducible refine Below.drew ?_) | (with_reducible refine below_setRow ?_ ?_ _) | (refine Below.trans ?_ (Below.mono (by assumption) ?_)))); all_goals (first | omega | (simp; done) | (simp; omega)))⟩
      · cases h4 : packOk f
        · have HB := Lib.hid (show (8 : Int) = R by rw [← HR.out, fldC, if_neg (by rw [h1]; simp), if_neg (by rw [h2]; simp), if_neg (by rw [h3]; simp), if_pos h4])
          simp only [packOk, Bool.not_eq_false', Bool.and_eq_true, Bool.or_eq_true, Bool.not_eq_true'] at h4
          obtain ⟨h5, h6⟩ := h4
          rw [h5] at kG d3
          cases h7 : f.rep
          · rw [h7] at kG d2
            go_wp2_with (first | (go_at_call 63; refine (l6Kind_any _ _).mono ?_; rintro r w1 ⟨rfl, rfl⟩))
            go_ret
            exact ⟨ret_int HB.out, by ((repeat (first | (with_reducible exact Below.refl _ _) | (with_reducible assumption) | (with_reducible refine Below.alloc ?_ ?_ _) | (with_reducible refine Below.setCell ?_ ?_ _) | (with_reducible refine Below.drew ?_) | (with_reducible refine below_setRow ?_ ?_ _) | (refine Below.trans ?_ (Below.mono (by assumption) ?_)))); all_goals (first | omega | (simp; done) | (simp; omega)))⟩
          · have h8 : inB f.kind 1 5 = false := by rcases h6 with h6 | h6; (rw [h7] at h6; simp at h6); exact h6
            rw [h7] at kG d2
            go_wp2_with (first | (go_at_call 63; refine (l6Kind_any _ _).mono ?_; rintro r w1 ⟨rfl, rfl⟩) | (go_at_call 72; refine (specNumeric_any _ _).mono ?_; rintro r w1 ⟨rfl, rfl⟩))
            go_ret
            exact ⟨ret_int HB.out, by ((repeat (first | (with_reducible exact Below.refl _ _) | (with_reducible assumption) | (with_reducible refine Below.alloc ?_ ?_ _) | (with_reducible refine Below.setCell ?_ ?_ _) | (with_reducible refine Below.drew ?_) | (with_reducible refine below_setRow ?_ ?_ _) | (refine Below.trans ?_ (Below.mono (by assumption) ?_)))); all_goals (first | omega | (simp; done) | (simp; omega)))⟩
        · have HP : f.packed = false ∨ f.packed = true ∧ f.rep = true ∧ inB f.kind 1 5 = true := by
            simp only [packOk] at h4
            cases h5 : f.packed <;> cases h6 : f.rep <;> cases h7 : inB f.kind 1 5 <;> simp [h5, h6, h7] at h4 ⊢
          have HE : ∀ v : Int, (if refBad xs f = true then (9 : Int) else 0) = v → v = R := fun v hv => by rw [← HR.out, fldC, if_neg (by rw [h1]; simp), if_neg (by rw [h2]; simp), if_neg (by rw [h3]; simp), if_neg (by rw [h4]; simp), hv]
          have HE2 := Lib.hid HE; clear HE h4
          by_cases h8 : f.kind = 8
          · have g8 : (f.kind == 8) = true := by simp; omega
            have g8n : (f.kind != 8) = false := by simp; omega
            have HRB := Lib.hid (show refBad xs f = !hasId xs f.msg by rw [refBad, if_pos h8])
            have HTK := Lib.hid (show xs.take n = xs from List.take_of_length_le (by rw [HL.out]; omega))
            clear h8
            rcases HP with h5 | ⟨h5, h6, h7⟩
            · rw [h5] at kG d3
              go_wp2_with (first | (go_at_call 63; refine (l6Kind_any _ _).mono ?_; rintro r w1 ⟨rfl, rfl⟩))
              refine (l6HasId_any (some ⟨b, off, none⟩) cap n n xs f.msg _ (HH.out.keep hbw) HL.out hn (Nat.le_refl _)).mono ?_
              rintro r w3 ⟨rfl, hb3⟩
              rw [HTK.out]
              have hG3 := (hb3.block _ hlG).trans HGx.out
              have kG3 := box_cells hG3; clear hG3 kG kA
              cases h9 : hasId xs f.msg
              · have HB := Lib.hid (HE2.out 9 (by rw [HRB.out, h9]; rfl))
                go_wp2
                go_ret
                exact ⟨ret_int HB.out, by ((repeat (first | (with_reducible exact Below.refl _ _) | (with_reducible assumption) | (with_reducible refine Below.alloc ?_ ?_ _) | (with_reducible refine Below.setCell ?_ ?_ _) | (with_reducible refine Below.drew ?_) | (with_reducible refine below_setRow ?_ ?_ _) | (refine Below.trans ?_ (Below.mono (by assumption) ?_)))); all_goals (first | omega | (simp; done) | (simp; omega)))⟩
              · have HB := Lib.hid (HE2.out 0 (by rw [HRB.out, h9]; rfl))
                go_wp2
                go_ret
                exact ⟨ret_int HB.out, by ((repeat (first | (with_reducible exact Below.refl _ _) | (with_reducible assumption) | (with_reducible refine Below.alloc ?_ ?_ _) | (with_reducible refine Below.setCell ?_ ?_ _) | (with_reducible refine Below.drew ?_) | (with_reducible refine below_setRow ?_ ?_ _) | (refine Below.trans ?_ (Below.mono (by assumption) ?_)))); all_goals (first | omega | (simp; done) | (simp; omega)))⟩
            · rw [h5] at kG d3
              rw [h6] at kG d2
              go_wp2_with (first | (go_at_call 63; refine (l6Kind_any _ _).mono ?_; rintro r w1 ⟨rfl, rfl⟩) | (go_at_call 72; refine (specNumeric_any _ _).mono ?_; rintro r w1 ⟨rfl, rfl⟩))
              refine (l6HasId_any (some ⟨b, off, none⟩) cap n n xs f.msg _ (HH.out.keep hbw) HL.out hn (Nat.le_refl _)).mono ?_
              rintro r w3 ⟨rfl, hb3⟩
              rw [HTK.out]
              have hG3 := (hb3.block _ hlG).trans HGx.out
              have kG3 := box_cells hG3; clear hG3 kG kA
              cases h9 : hasId xs f.msg
              · have HB := Lib.hid (HE2.out 9 (by rw [HRB.out, h9]; rfl))
                go_wp2
                go_ret
                exact ⟨ret_int HB.out, by ((repeat (first | (with_reducible exact Below.refl _ _) | (with_reducible assumption) | (with_reducible refine Below.alloc ?_ ?_ _) | (with_reducible refine Below.setCell ?_ ?_ _) | (with_reducible refine Below.drew ?_) | (with_reducible refine below_setRow ?_ ?_ _) | (refine Below.trans ?_ (Below.mono (by assumption) ?_)))); all_goals (first | omega | (simp; done) | (simp; omega)))⟩
              · have HB := Lib.hid (HE2.out 0 (by rw [HRB.out, h9]; rfl))
                go_wp2
                go_ret
                exact ⟨ret_int HB.out, by ((repeat (first | (with_reducible exact Below.refl _ _) | (with_reducible assumption) | (with_reducible refine Below.alloc ?_ ?_ _) | (with_reducible refine Below.setCell ?_ ?_ _) | (with_reducible refine Below.drew ?_) | (with_reducible refine below_setRow ?_ ?_ _) | (refine Below.trans ?_ (Below.mono (by assumption) ?_)))); all_goals (first | omega | (simp; done) | (simp; omega)))⟩
          · have g8 : (f.kind == 8) = false := by simp; omega
            have g8n : (f.kind != 8) = true := by simp; omega
            have HRB := Lib.hid (show refBad xs f = !(f.msg == 0) by rw [refBad, if_neg h8])
            clear h8
            rcases HP with h5 | ⟨h5, h6, h7⟩
            · rw [h5] at kG d3
              by_cases h9 : f.msg = 0
              · have g9 : (f.msg == 0) = true := by simp; omega
                have g9n : (f.msg != 0) = false := by simp; omega
                have HB := Lib.hid (HE2.out 0 (by rw [HRB.out, g9]; rfl))
                clear h9
                go_wp2_with (first | (go_at_call 63; refine (l6Kind_any _ _).mono ?_; rintro r w1 ⟨rfl, rfl⟩))
                go_ret
                exact ⟨ret_int HB.out, by ((repeat (first | (with_reducible exact Below.refl _ _) | (with_reducible assumption) | (with_reducible refine Below.alloc ?_ ?_ _) | (with_reducible refine Below.setCell ?_ ?_ _) | (with_reducible refine Below.drew ?_) | (with_reducible refine below_setRow ?_ ?_ _) | (refine Below.trans ?_ (Below.mono (by assumption) ?_)))); all_goals (first | omega | (simp; done) | (simp; omega)))⟩
              · have g9 : (f.msg == 0) = false := by simp; omega
                have g9n : (f.msg != 0) = true := by simp; omega
                have HB := Lib.hid (HE2.out 9 (by rw [HRB.out, g9]; rfl))
                clear h9
                go_wp2_with (first | (go_at_call 63; refine (l6Kind_any _ _).mono ?_; rintro r w1 ⟨rfl, rfl⟩))
                go_ret
                exact ⟨ret_int HB.out, by ((repeat (first | (with_reducible exact Below.refl _ _) | (with_reducible assumption) | (with_reducible refine Below.alloc ?_ ?_ _) | (with_reducible refine Below.setCell ?_ ?_ _) | (with_reducible refine Below.drew ?_) | (with_reducible refine below_setRow ?_ ?_ _) | (refine Below.trans ?_ (Below.mono (by assumption) ?_)))); all_goals (first | omega | (simp; done) | (simp; omega)))⟩
            · rw [h5] at kG d3
              rw [h6] at kG d2
              by_cases h9 : f.msg = 0
              · have g9 : (f.msg == 0) = true := by simp; omega
                have g9n : (f.msg != 0) = false := by simp; omega
                have HB := Lib.hid (HE2.out 0 (by rw [HRB.out, g9]; rfl))
                clear h9
                go_wp2_with (first | (go_at_call 63; refine (l6Kind_any _ _).mono ?_; rintro r w1 ⟨rfl, rfl⟩) | (go_at_call 72; refine (specNumeric_any _ _).mono ?_; rintro r w1 ⟨rfl, rfl⟩))
                go_ret
                exact ⟨ret_int HB.out, by ((repeat (first | (with_reducible exact Below.refl _ _) | (with_reducible assumption) | (with_reducible refine Below.alloc ?_ ?_ _) | (with_reducible refine Below.setCell ?_ ?_ _) | (with_reducible refine Below.drew ?_) | (with_reducible refine below_setRow ?_ ?_ _) | (refine Below.trans ?_ (Below.mono (by assumption) ?_)))); all_goals (first | omega | (simp; done) | (simp; omega)))⟩
              · have g9 : (f.msg == 0) = false := by simp; omega
                have g9n : (f.msg != 0) = true := by simp; omega
                have HB := Lib.hid (HE2.out 9 (by rw [HRB.out, g9]; rfl))
                clear h9
                go_wp2_with (first | (go_at_call 63; refine (l6Kind_any _ _).mono ?_; rintro r w1 ⟨rfl, rfl⟩) | (go_at_call 72; refine (specNumeric_any _ _).mono ?_; rintro r w1 ⟨rfl, rfl⟩))
                go_ret
                exact ⟨ret_int HB.out, by ((repeat (first | (with_reducible exact Below.refl _ _) | (with_reducible assumption) | (with_reducible refine Below.alloc ?_ ?_ _) | (with_reducible refine Below.setCell ?_ ?_ _) | (with_reducible refine Below.drew ?_) | (with_reducible refine below_setRow ?_ ?_ _) | (refine Below.trans ?_ (Below.mono (by assumption) ?_)))); all_goals (first | omega | (simp; done) | (simp; omega)))⟩
    · have HB := Lib.hid (show (6 : Int) = R by rw [← HR.out, fldC, if_neg (by rw [h1]; simp), if_pos h2])
      go_wp2
      go_ret
      exact ⟨ret_int HB.out, by ((repeat (first | (with_reducible exact Below.refl _ _) | (with_reducible assumption) | (with_reducible refine Below.alloc ?_ ?_ _) | (with_reducible refine Below.setCell ?_ ?_ _) | (with_reducible refine Below.drew ?_) | (with_reducible refine below_setRow ?_ ?_ _) | (refine Below.trans ?_ (Below.mono (by assumption) ?_)))); all_goals (first | omega | (simp; done) | (simp; omega)))⟩
def firstF (xs : List Shp) (i : Nat) (fs : List Fld) : Nat → List Fld → Option (Int × Int × Int)
  | _, [] => none
  | k, f :: gs => if fldC xs fs k f = 0 then firstF xs i fs (k + 1) gs else some (fldC xs fs k f, i, k)
def firstM (xs : List Shp) : Nat → List Shp → Int × Int × Int
  | _, [] => (0, 0, 0)
  | i, x :: ys => if msgC xs i x = 0 then (firstF xs i x.flds 0 x.flds).getD (firstM xs (i + 1) ys) else (msgC xs i x, i, -1)
def firstV (xs : List Shp) : Int × Int × Int := if 6 < xs.length then (1, 6, -1) else firstM xs 0 xs
def vioV (v : Int × Int × Int) : Value := .agg #[.int .i64 v.1, .int .i64 v.2.1, .int .i64 v.2.2]
section
variable {xs : List Shp} {i k : Nat} {x : Shp} {f : Fld} {R : Int × Int × Int} {O : Option (Int × Int × Int)}
theorem fM_bad (h : firstM xs i (xs.drop i) = R) (hx : xs[i]? = some x) (hb : ¬ msgC xs i x = 0) : (msgC xs i x, (i : Int), (-1 : Int)) = R := by rw [drop_cons hx, firstM, if_neg hb] at h; exact h
theorem fM_ok (h : firstM xs i (xs.drop i) = R) (hx : xs[i]? = some x) (hb : msgC xs i x = 0) : (firstF xs i x.flds 0 x.flds).getD (firstM xs (i + 1) (xs.drop (i + 1))) = R := by rw [drop_cons hx, firstM, if_pos hb] at h; exact h
theorem fM_end (h : firstM xs i (xs.drop i) = R) (hx : xs.length ≤ i) : ((0 : Int), (0 : Int), (0 : Int)) = R := by rw [List.drop_of_length_le hx, firstM] at h; exact h
theorem fF_bad {fs : List Fld} (h : firstF xs i fs k (fs.drop k) = O) (hf : fs[k]? = some f) (hb : ¬ fldC xs fs k f = 0) : some (fldC xs fs k f, (i : Int), (k : Int)) = O := by rw [drop_cons hf, firstF, if_neg hb] at h; exact h
theorem fF_ok {fs : List Fld} (h : firstF xs i fs k (fs.drop k) = O) (hf : fs[k]? = some f) (hb : fldC xs fs k f = 0) : firstF xs i fs (k + 1) (fs.drop (k + 1)) = O := by rw [drop_cons hf, firstF, if_pos hb] at h; exact h
theorem fF_end {fs : List Fld} (h : firstF xs i fs k (fs.drop k) = O) (hf : fs.length ≤ k) : none = O := by rw [List.drop_of_length_le hf, firstF] at h; exact h
end
end Go.Proofs.YtbjbgneiglopmaaGreatDoor
namespace Go.Proofs.YtbjbgneiglopmaaGreatDoor
set_option linter.unusedSimpArgs false
set_option linter.unusedVariables false
open Go.ChangeShapes Go.WideShapes Go.ChangeAt Go.RowKit Go.BigFrame
theorem vio_res {F : Func} (hF : F.results = #[.cell 2 59]) {tm : Array Value} {B : Nat} {W : World} {x y z : Int} (t1 : tm.getD 2 undef = .pointer (some ⟨B, 0, none⟩)) (h : W.heap[B]? = some (.cells #[.int .i64 x, .int .i64 y, .int .i64 z] 59 (0, 0))) :
    (results F tm).run Tryz.prog W = .ok (.agg #[.int .i64 x, .int .i64 y, .int .i64 z]) W :=
  results_cell hF t1 (run_loadVar_mid W B 0 59 [.int .i64 x, .int .i64 y, .int .i64 z] _ (range_of_box h) Tryz.underlying59 rfl (by kernel_rfl))
set_option maxRecDepth 100000 in
set_option maxHeartbeats 4000000 in
theorem specFirst_any (a : Option Addr) (cap n : Nat) (xs : List Shp) (w : World) (h : ShsL w a xs) (hl : xs.length = n) (hn : n ≤ 1048576) (hm : fldSum xs ≤ 1048576) :
    Calls Tryz.prog 33 #[.agg #[.slice a n cap]] w fun r w' => r = .returned (vioV (firstV xs)) ∧ Below w.heap.size w w' := by
  have HL := Lib.hid hl; clear hl
  have HH := Lib.hid h; clear h
  obtain ⟨R, hR⟩ : ∃ R, firstV xs = R := ⟨_, rfl⟩
  rw [hR]
  go_enter Tryz.func33, Tryz.ntmps33
  by_cases h6 : 6 < n
  · have hR1 : R = (1, 6, -1) := by rw [← hR, firstV, if_pos (by rw [HL.out]; exact h6)]
    subst hR1
    have h6' : (6 : Int) < (n : Int) := by omega
    go_wp2
    refine bodyPost_ret (vio_res (B := w.heap.size + 1) (x := 1) (y := 6) (z := -1) Tryz.results33 rfl ?_) rfl ⟨rfl, by ((repeat (first | (with_reducible exact Below.refl _ _) | (with_reducible assumption) | (with_reducible refine Below.alloc ?_ ?_ _) | (with_reducible refine Below.setCell ?_ ?_ _) | (with_reducible refine Below.drew ?_) | (with_reducible refine below_setRow ?_ ?_ _) | (refine Below.trans ?_ (Below.mono (by assumption) ?_)))); all_goals (first | omega | (simp; done) | (simp; omega)))⟩
    exact hset_new (by simp)
  · have HR := Lib.hid (show firstM xs 0 (xs.drop 0) = R by rw [← hR, firstV, if_neg (by rw [HL.out]; exact h6)]; rfl)
    have h6' : decide ((6 : Int) < (n : Int)) = false := decide_eq_false (by omega)
    clear hR
    go_wp2
    go_loopw [3] (fun i wr => ∃ k : Nat, k ≤ n ∧ i = .int .i64 k ∧ Hid (firstM xs k (xs.drop k) = R) ∧ wr.heap[w.heap.size]? = some (.cells #[.slice a n cap] 24 (0, 0)) ∧ wr.heap[w.heap.size + 1]? = some (.cells #[.int .i64 0, .int .i64 0, .int .i64 0] 59 (0, 0)) ∧ Below w.heap.size w wr) (fun i _ => n - (intOf i).toNat)
    case atStart => exact ⟨0, Nat.zero_le _, rfl, HR, hset_alloc (hset_new rfl), hset_new (by simp), by ((repeat (first | (with_reducible exact Below.refl _ _) | (with_reducible assumption) | (with_reducible refine Below.alloc ?_ ?_ _) | (with_reducible refine Below.setCell ?_ ?_ _) | (with_reducible refine Below.drew ?_) | (with_reducible refine below_setRow ?_ ?_ _) | (refine Below.trans ?_ (Below.mono (by assumption) ?_)))); all_goals (first | omega | (simp; done) | (simp; omega)))⟩
    case round =>
      obtain ⟨k, hk, rfl, HK, hA, hV, hb⟩ := hrel
      have kA := box_cells hA 0; have kV := box_cells hV; have fV := box_frozen hV; have hlA := box_lt hA; have hlV := box_lt hV
      simp only [List.getElem?_toArray, List.getElem?_cons_zero] at kA
      have HA := Lib.hid hA; have HV := Lib.hid hV; clear hA hV
      by_cases hlt : k < n
      · obtain ⟨x, hx, _⟩ := at_lt (xs := xs) (k := k) (by rw [HL.out]; exact hlt)
        have hfl : x.flds.length ≤ 1048576 := by have := fldSum_ge hx; omega
        have hsl := HH.out.keep hb
        obtain ⟨b, off, a', cap', rfl, hbl, c0, c1, hfs, hcp⟩ := hsl k x hx
        have HX := Lib.hid hx; clear hx
        have HS := Lib.hid hsl; clear hsl hfs
        go_wp2_with fail
        refine (specMsgCode_any (some ⟨b, off, none⟩) cap n k xs x wr HS.out.shs HL.out hn HX.out hlt hfl).mono ?_
        rintro r w1 ⟨rfl, hb1⟩
        have hA1 := (hb1.block _ hlA).trans HA.out
        have hV1 := (hb1.block _ hlV).trans HV.out
        have hbw1 : Below w.heap.size w w1 := hb.trans (hb1.mono hb.size)
        have c1_ := (hb1.cell (p := ⟨b, off + k * 2 + 1, none⟩) hbl).trans c1
        have hbl1 := Nat.lt_of_lt_of_le hbl hb1.size
        have HS1 := Lib.hid (HS.out.keep hb1)
        clear kA kV fV hlA hlV c0 c1 hb hb1 HS HA HV hbl
        have c1 := c1_; clear c1_
        have kA := box_cells hA1 0; have kV := box_cells hV1; have fV := box_frozen hV1; have hlA := box_lt hA1; have hlV := box_lt hV1
        simp only [List.getElem?_toArray, List.getElem?_cons_zero] at kA
        have HA := Lib.hid hA1; have HV := Lib.hid hV1; clear hA1 hV1
        by_cases hz : msgC xs k x = 0
        · obtain ⟨O, hO⟩ : ∃ O, firstF xs k x.flds 0 x.flds = O := ⟨_, rfl⟩
          have HM := fM_ok HK.out HX.out hz
          rw [hO] at HM
          have HMx := Lib.hid HM; clear HM
          have HO := Lib.hid (show firstF xs k x.flds 0 (x.flds.drop 0) = O from hO); clear hO
          have hz' : (msgC xs k x != 0) = false := by simp [hz]
          rw [hz]
          clear hz hz'
          go_wp2
          obtain ⟨wo, hwo⟩ : ∃ wo : World, wo = w1 := ⟨_, rfl⟩
          rw [← hwo] at HA HV hbw1 HS1 c1 hbl1 kA kV fV hlA hlV ⊢
          clear hwo
          go_loopw [5] (fun j wi => ∃ q : Nat, q ≤ x.flds.length ∧ j = .int .i64 q ∧ Hid (firstF xs k x.flds q (x.flds.drop q) = O) ∧ Below wo.heap.size wo wi) (fun j _ => x.flds.length - (intOf j).toNat)
          case atStart => exact ⟨0, Nat.zero_le _, rfl, HO, Below.refl _ _⟩
          case round =>
            obtain ⟨q, hq, rfl, HQ, hbi⟩ := hrel
            obtain ⟨wi, hwi⟩ : ∃ wi : World, wi = wr := ⟨_, rfl⟩
            rw [← hwi] at hbi ⊢
            clear hwi
            have hAi := (hbi.block _ hlA).trans HA.out
            have hVi := (hbi.block _ hlV).trans HV.out
            have hbwi : Below w.heap.size w wi := hbw1.trans (hbi.mono hbw1.size)
            have c1i := (hbi.cell (p := ⟨b, off + k * 2 + 1, none⟩) hbl1).trans c1
            have HSi := Lib.hid (HS1.out.keep hbi)
            clear kA kV fV c1
            have kA := box_cells hAi 0; have kV := box_cells hVi; have fV := box_frozen hVi; have hlAi := box_lt hAi; have hlVi := box_lt hVi
            simp only [List.getElem?_toArray, List.getElem?_cons_zero] at kA
            have HVi := Lib.hid hVi; clear hVi hAi
            by_cases hlq : q < x.flds.length
            · obtain ⟨f, hf, _⟩ := at_lt (xs := x.flds) (k := q) hlq
              have HF := Lib.hid hf; clear hf
              go_wp2_with fail
              refine (specFieldCode_any (some ⟨b, off, none⟩) cap n k q xs x f wi HSi.out HL.out hn HX.out hlt hfl HF.out hlq).mono ?_
              rintro r w3 ⟨rfl, hb3⟩
              have hV3 := (hb3.block _ hlVi).trans HVi.out
              have hbw3 : Below w.heap.size w w3 := hbwi.trans (hb3.mono hbwi.size)
              have kV3 := box_cells hV3; have fV3 := box_frozen hV3; have hlV3 := box_lt hV3
              have HV3 := Lib.hid hV3; clear hV3 kV fV
              by_cases hz : fldC xs x.flds q f = 0
              · rw [hz]
                have HQ2 := Lib.hid (fF_ok HQ.out HF.out hz)
                clear hz
                go_wp2
                go_roundw
                case rel => exact ⟨q + 1, by omega, by go_num, HQ2, hbi.trans (hb3.mono hbi.size)⟩
                case measure => simp [intOf]; omega
              · have hO2 := fF_bad HQ.out HF.out hz
                have hR2 : (fldC xs x.flds q f, (k : Int), (q : Int)) = R := by have := HMx.out; rw [← hO2] at this; exact this
                have HR2 := Lib.hid hR2; clear hR2 hO2
                have gz : (fldC xs x.flds q f == 0) = false := by simp [hz]
                have gzn : (fldC xs x.flds q f != 0) = true := by simp [hz]
                clear hz
                go_wp2
                refine bodyPost_ret (vio_res (B := w.heap.size + 1) (x := fldC xs x.flds q f) (y := k) (z := q) Tryz.results33 rfl ?_) rfl ⟨?_, by ((repeat (first | (with_reducible exact Below.refl _ _) | (with_reducible assumption) | (with_reducible refine Below.alloc ?_ ?_ _) | (with_reducible refine Below.setCell ?_ ?_ _) | (with_reducible refine Below.drew ?_) | (with_reducible refine below_setRow ?_ ?_ _) | (refine Below.trans ?_ (Below.mono (by assumption) ?_)))); all_goals (first | omega | (simp; done) | (simp; omega)))⟩
                · apply hset_eq (hset_set (hset_set (hset_set HV3.out))); simp only [List.setIfInBounds_toArray, List.set_cons_zero, List.set_cons_succ]
                · rw [← HR2.out]; rfl
            · have hO2 := fF_end HQ.out (by omega)
              have HK2 := Lib.hid (show firstM xs (k + 1) (xs.drop (k + 1)) = R by have := HMx.out; rw [← hO2] at this; exact this)
              clear hO2
              go_wp2
              go_roundw
              case rel => exact ⟨k + 1, by omega, by go_num, HK2, (hbi.block _ hlA).trans HA.out, HVi.out, hbwi⟩
              case measure => simp [intOf]; omega
        · have hR2 := fM_bad HK.out HX.out hz
          have HR2 := Lib.hid hR2; clear hR2
          have gz : (msgC xs k x == 0) = false := by simp [hz]
          have gzn : (msgC xs k x != 0) = true := by simp [hz]
          clear hz
          go_wp2
          refine bodyPost_ret (vio_res (B := w.heap.size + 1) (x := msgC xs k x) (y := k) (z := -1) Tryz.results33 rfl ?_) rfl ⟨?_, by ((repeat (first | (with_reducible exact Below.refl _ _) | (with_reducible assumption) | (with_reducible refine Below.alloc ?_ ?_ _) | (with_reducible refine Below.setCell ?_ ?_ _) | (with_reducible refine Below.drew ?_) | (with_reducible refine below_setRow ?_ ?_ _) | (refine Below.trans ?_ (Below.mono (by assumption) ?_)))); all_goals (first | omega | (simp; done) | (simp; omega)))⟩
          · apply hset_eq (hset_set (hset_set (hset_set HV.out))); simp only [List.setIfInBounds_toArray, List.set_cons_zero, List.set_cons_succ]
          · rw [← HR2.out]; rfl
      · obtain rfl : k = n := by omega
        have hR2 := fM_end HK.out (by rw [HL.out]; omega)
        have HR2 := Lib.hid hR2; clear hR2
        go_wp2
        refine bodyPost_ret (vio_res (B := w.heap.size + 1) (x := 0) (y := 0) (z := 0) Tryz.results33 rfl ?_) rfl ⟨?_, by ((repeat (first | (with_reducible exact Below.refl _ _) | (with_reducible assumption) | (with_reducible refine Below.alloc ?_ ?_ _) | (with_reducible refine Below.setCell ?_ ?_ _) | (with_reducible refine Below.drew ?_) | (with_reducible refine below_setRow ?_ ?_ _) | (refine Below.trans ?_ (Below.mono (by assumption) ?_)))); all_goals (first | omega | (simp; done) | (simp; omega)))⟩
        · apply hset_eq (hset_set (hset_set (hset_set HV.out))); simp only [List.setIfInBounds_toArray, List.set_cons_zero, List.set_cons_succ]
        · rw [← HR2.out]; rfl
end Go.Proofs.YtbjbgneiglopmaaGreatDoor
namespace Go.Proofs.YtbjbgneiglopmaaGreatDoor
set_option linter.unusedSimpArgs false
set_option linter.unusedVariables false
def hasI (ids : List Int) (i : Int) : Bool := ids.any fun j => j == i
structure FG (ids : List Int) (f : Fld) : Prop where
  num : numOk f.number = true
  kind : inB f.kind 1 8 = true
  pack : packOk f = true
  ref : if f.kind = 8 then hasI ids f.msg = true else f.msg = 0
def Dist (fs : List Fld) : Prop := ∀ (k : Nat) (f : Fld), fs[k]? = some f → hasNum (fs.take k) f.number = false
theorem Dist.nil : Dist [] := fun k f h => by simp at h
theorem Dist.snoc {fs : List Fld} {f : Fld} (h : Dist fs) (hf : hasNum fs f.number = false) : Dist (fs ++ [f]) := by
  intro k g hg
  rcases Nat.lt_trichotomy k fs.length with hk | hk | hk
  · rw [List.getElem?_append_left hk] at hg
    rw [List.take_append_of_le_length (by omega)]
    exact h k g hg
  · subst hk
    rw [List.getElem?_append_right (Nat.le_refl _)] at hg
    simp at hg; subst hg
    rw [List.take_left]
    exact hf
  · rw [List.getElem?_eq_none (by simp; omega)] at hg; simp at hg
structure RawGood (ids : List Int) (i k : Nat) (xs : List Shp) : Prop where
  ids_ : xs.map Shp.id = ids
  len : ∀ (j : Nat) (x : Shp), xs[j]? = some x → x.flds.length ≤ if j < i then 5 else if j = i then k else 0
  good : ∀ x ∈ xs, Dist x.flds ∧ ∀ f ∈ x.flds, FG ids f
theorem RawGood.next {ids : List Int} {i k : Nat} {xs : List Shp} (h : RawGood ids i k xs) : RawGood ids i (k + 1) xs :=
  ⟨h.ids_, fun j x hx => by have := h.len j x hx; split at this <;> (try split at this) <;> (try split) <;> (try split) <;> omega, h.good⟩
theorem RawGood.turn {ids : List Int} {i k : Nat} {xs : List Shp} (h : RawGood ids i k xs) (hk : k ≤ 5) : RawGood ids (i + 1) 0 xs :=
  ⟨h.ids_, fun j x hx => by have := h.len j x hx; split at this <;> (try split at this) <;> (try split) <;> (try split) <;> omega, h.good⟩
theorem RawGood.put {ids : List Int} {i k : Nat} {xs : List Shp} {x : Shp} {f : Fld} (h : RawGood ids i k xs) (hx : xs[i]? = some x) (hf : FG ids f) (hn : hasNum x.flds f.number = false) :
    RawGood ids i (k + 1) (xs.set i ⟨x.id, x.flds ++ [f]⟩) := by
  obtain ⟨hi, hxe⟩ := List.getElem?_eq_some_iff.1 hx
  refine ⟨?_, ?_, ?_⟩
  · rw [List.map_set, ← h.ids_]
    apply List.ext_getElem? 
    intro j
    by_cases hj : i = j
    · subst hj
      rw [List.getElem?_set_self (by simpa using hi), List.getElem?_map, hx]; rfl
    · rw [List.getElem?_set_ne hj]
  · intro j y hy
    by_cases hj : i = j
    · subst hj
      rw [List.getElem?_set_self hi] at hy
      simp at hy; subst hy
      have := h.len i x hx
      simp at this ⊢
      omega
    · rw [List.getElem?_set_ne hj] at hy
      have := h.len j y hy
      split at this <;> (try split at this) <;> (try split) <;> (try split) <;> omega
  · intro y hy
    rcases List.mem_or_eq_of_mem_set hy with h1 | rfl
    · exact h.good y h1
    · obtain ⟨g1, g2⟩ := h.good x (List.mem_of_getElem? hx)
      refine ⟨g1.snoc hn, fun g hg => ?_⟩
      rcases List.mem_append.1 hg with h2 | h2
      · exact g2 g h2
      · simp at h2; subst h2; exact hf
theorem firstF_none {xs : List Shp} {i : Nat} {fs : List Fld} (h : ∀ (k : Nat) (f : Fld), fs[k]? = some f → fldC xs fs k f = 0) : ∀ (k : Nat), firstF xs i fs k (fs.drop k) = none := by
  intro k
  by_cases hk : k < fs.length
  · have hf : fs[k]? = some fs[k] := List.getElem?_eq_getElem hk
    rw [drop_cons hf, firstF, if_pos (h k _ hf)]
    exact firstF_none h (k + 1)
  · rw [List.drop_of_length_le (by omega), firstF]
termination_by k => fs.length - k
theorem firstM_zero {xs : List Shp} (h : ∀ (i : Nat) (x : Shp), xs[i]? = some x → msgC xs i x = 0 ∧ ∀ (k : Nat) (f : Fld), x.flds[k]? = some f → fldC xs x.flds k f = 0) : ∀ (i : Nat), firstM xs i (xs.drop i) = (0, 0, 0) := by
  intro i
  by_cases hi : i < xs.length
  · have hx : xs[i]? = some xs[i] := List.getElem?_eq_getElem hi
    obtain ⟨h1, h2⟩ := h i _ hx
    rw [drop_cons hx, firstM, if_pos h1]
    have := firstF_none (xs := xs) (i := i) h2 0
    rw [List.drop_zero] at this
    rw [this]
    exact firstM_zero h (i + 1)
  · rw [List.drop_of_length_le (by omega), firstM]
termination_by i => xs.length - i
end Go.Proofs.YtbjbgneiglopmaaGreatDoor
namespace Go.Proofs.YtbjbgneiglopmaaGreatDoor
set_option linter.unusedSimpArgs false
set_option linter.unusedVariables false
open Go.ChangeShapes Go.WideShapes Go.ChangeAt Go.RowKit Go.BigFrame
structure TxtW (w : World) : Prop where
  num : NumW w
  max : ∃ m, w.cell? ⟨0, 0, none⟩ = some (.int .i64 m)
theorem TxtW.keep {w w' : World} (h : TxtW w) (hb : Below w.heap.size w w') : TxtW w' := by
  obtain ⟨m, hm⟩ := h.max
  exact ⟨h.num.keep hb, m, (hb.cell (World.block_lt_of_cell? w _ hm)).trans hm⟩
def splitL (n : Nat) (l : List UInt8) (c : UInt8) : List (List UInt8) := Lib.splitK [c] 0 (min n (l.length + 1) - 1) l
theorem splitK_len (sep : List UInt8) : ∀ (k : Nat) (l : List UInt8), ∀ x ∈ Lib.splitK sep 0 k l, x.length ≤ l.length
  | 0, l, x, hx => by simp [Lib.splitK] at hx; subst hx; exact Nat.le_refl _
  | k + 1, l, x, hx => by
    rw [Lib.splitK] at hx
    split at hx
    · simp at hx; subst hx; exact Nat.le_refl _
    · rcases List.mem_cons.1 hx with rfl | hx
      · rw [List.length_take]; omega
      · have := splitK_len sep k _ x hx
        rw [List.length_drop] at this; omega
theorem splitK_num (sep : List UInt8) : ∀ (k : Nat) (l : List UInt8), (Lib.splitK sep 0 k l).length ≤ k + 1
  | 0, l => by simp [Lib.splitK]
  | k + 1, l => by
    rw [Lib.splitK]
    split
    · simp
    · have := splitK_num sep k (l.drop ((Lib.index l sep).toNat + sep.length)); simp; omega
theorem splitK_ne (sep : List UInt8) : ∀ (k : Nat) (l : List UInt8), Lib.splitK sep 0 k l ≠ []
  | 0, l => by simp [Lib.splitK]
  | k + 1, l => by
    rw [Lib.splitK]
    split <;> simp
theorem implSplit_any (s : ByteArray) (c : UInt8) (n : Nat) (w : World) (hw : TxtW w) (hs : s.size ≤ 1048576) (hn : 1 ≤ n) (hn2 : n ≤ 1000) :
    Calls Tryz.prog 20 #[.string s, .string (sB [c]), .int .i64 n] w (FreshStrs w (splitL n (bL s) c)) := by
  obtain ⟨m, hm⟩ := hw.max
  refine (Tryz.strings_SplitN s (sB [c]) n m w (by omega) hm (by simp [ByteArray.size]) hn (by omega)).mono ?_
  rintro r w' ⟨rfl, rfl⟩
  have hd := Lib.splitB_data (sB [c]) 0 (min n (s.size + 1) - 1) s
  have hL : (Lib.splitB (sB [c]) 0 (min n (s.size + 1) - 1) s).map bL = splitL n (bL s) c := by rw [splitL, bL_len]; exact hd
  have hlen : (Lib.splitB (sB [c]) 0 (min n (s.size + 1) - 1) s).length = (splitL n (bL s) c).length := by rw [← hL, List.length_map]
  have hle := Lib.splitB_length_le (sB [c]) 0 (min n (s.size + 1) - 1) s
  obtain ⟨B, hB⟩ : ∃ B, Lib.splitB (sB [c]) 0 (min n (s.size + 1) - 1) s = B := ⟨_, rfl⟩
  rw [hB] at hL hlen hle ⊢
  have hN : B.length ≤ min n (s.size + 1) := by omega
  refine ⟨w.heap.size, min n (s.size + 1), by rw [hlen], ⟨by simp [strRowP], .inr ⟨w.heap.size, min n (s.size + 1), Lib.cellsOf B (min n (s.size + 1)), rfl, Nat.le_refl _, heap_nth0 w _, by rw [← hlen]; exact hN, by unfold maxLen; omega, by rw [Lib.cellsOf_size hN]; omega, ?_⟩⟩, (Below.refl _ _).alloc (Nat.le_refl _) _⟩
  rw [← hlen, Nat.mul_one]
  show List.take B.length (B.map Value.string ++ List.replicate (min n (s.size + 1) - B.length) (Value.string ByteArray.empty)) = _
  rw [List.take_append_of_le_length (by simp), List.take_of_length_le (by simp), ← hL]
  simp only [strRowP, List.map_map]
  exact List.map_congr_left fun x _ => by rw [Function.comp_apply, sB, ← str_of_bL]
def stepI (f : Fld) (w : List UInt8) : Fld := if w = repW then ⟨f.number, f.kind, true, f.packed, f.msg⟩ else if w = packW then ⟨f.number, f.kind, f.rep, true, f.msg⟩ else ⟨f.number, f.kind, f.rep, f.packed, numD w⟩
def implP (x0 x1 : List UInt8) (ws : List (List UInt8)) : Fld := ws.foldl stepI ⟨numD x0, kf x1 8 0, false, false, 0⟩
def readW (l : List UInt8) : List (List UInt8) → Fld × Bool
  | x0 :: x1 :: ws => if fieldL (implP x0 x1 ws) = l then (implP x0 x1 ws, true) else (zeroR, false)
  | _ => (zeroR, false)
def readI (l : List UInt8) : Fld × Bool := readW l (splitL 6 l 32)
theorem foldl_snocI {ws : List (List UInt8)} {j : Nat} {x : List UInt8} {f0 : Fld} (hx : ws[j]? = some x) : (ws.take (j + 1)).foldl stepI f0 = stepI ((ws.take j).foldl stepI f0) x := by
  rw [List.take_add_one, hx, List.foldl_append]; rfl
set_option maxRecDepth 100000 in
set_option maxHeartbeats 8000000 in
theorem implReadField_any (s : ByteArray) (w : World) (hw : TxtW w) (hs : s.size ≤ 1048576) :
    Calls Tryz.prog 23 #[.string s] w fun r w' => r = .returned (.tuple #[(readI (bL s)).1.val, .bool (readI (bL s)).2]) ∧ Below w.heap.size w w' := by
  obtain ⟨⟨RF, RB⟩, hR⟩ : ∃ R, readI (bL s) = R := ⟨_, rfl⟩
  rw [hR]
  have HR := Lib.hid hR; clear hR
  have HW := Lib.hid hw; clear hw
  obtain ⟨ws, hws⟩ : ∃ ws, splitL 6 (bL s) 32 = ws := ⟨_, rfl⟩
  have hwn : ws ≠ [] := by rw [← hws]; exact splitK_ne _ _ _
  have hwl : ws.length ≤ 6 := by rw [← hws]; have := splitK_num [32] (min 6 ((bL s).length + 1) - 1) (bL s); simp only [splitL]; omega
  have hwx : ∀ x ∈ ws, x.length ≤ 1048576 := by
    rw [← hws]; intro x hx
    have := splitK_len [32] _ (bL s) x hx
    rw [bL_len] at this; omega
  have hRR : (RF, RB) = readW (bL s) ws := by rw [← HR.out, readI, hws]
  have hparts : ∀ W : World, TxtW W → Calls Tryz.prog 20 #[.string s, .string ⟨#[32]⟩, .int .i64 6] W (FreshStrs W ws) := fun W hW => by
    have := implSplit_any s 32 6 W hW hs (by omega) (by omega)
    rw [hws] at this; exact this
  clear hws HR
  obtain ⟨x0, wr0, rfl⟩ : ∃ x0 r, ws = x0 :: r := by
    cases ws with
    | nil => exact absurd rfl hwn
    | cons x r => exact ⟨x, r, rfl⟩
  cases wr0 with
  | nil =>
    simp only [readW, Prod.mk.injEq] at hRR
    obtain ⟨rfl, rfl⟩ := hRR
    go_enter Tryz.func23, Tryz.ntmps23
    go_wp2_with fail
    refine (hparts _ (HW.out.keep (by ((repeat (first | (with_reducible exact Below.refl _ _) | (with_reducible assumption) | (with_reducible refine Below.alloc ?_ ?_ _) | (with_reducible refine Below.setCell ?_ ?_ _) | (with_reducible refine Below.drew ?_) | (with_reducible refine below_setRow ?_ ?_ _) | (refine Below.trans ?_ (Below.mono (by assumption) ?_)))); all_goals (first | omega | (simp; done) | (simp; omega)))))).mono ?_
    rintro r w1 ⟨g, cap, rfl, ho, hb1⟩
    have hz1 := hb1.size
    simp only [World.size_alloc] at hz1
    have hR1 := (hb1.block w.heap.size (by simp)).trans (hset_new (o := .cells (fcs zeroR) 44 (0, 0)) rfl)
    obtain ⟨r0, r1, r2, r3, r4, rz⟩ := fbox_cells hR1
    have hRl := box_lt hR1
    have hT1 : Below w.heap.size w w1 := ((Below.refl _ _).alloc (Nat.le_refl _) _).trans (hb1.mono (by simp))
    clear ho hparts
    go_wp2_with fail
    refine bodyPost_ret (v := .tuple #[zeroR.val, .bool false]) (by simp [results, Tryz.results23, go_sem, zeroR, hRl, r0, r1, r2, r3, r4]) rfl ⟨rfl, ((((hT1.setCell (Nat.le_refl _) _).setCell (Nat.le_refl _) _).setCell (Nat.le_refl _) _).setCell (Nat.le_refl _) _).setCell (Nat.le_refl _) _⟩
  | cons x1 wr1 =>
    rw [readW] at hRR
    have HRR := Lib.hid hRR; clear hRR
    have hx0 := hwx x0 (List.mem_cons_self ..)
    have hwl' : wr1.length ≤ 4 := by simp at hwl; omega
    go_enter Tryz.func23, Tryz.ntmps23
    go_wp2_with fail
    refine (hparts _ (HW.out.keep (by ((repeat (first | (with_reducible exact Below.refl _ _) | (with_reducible assumption) | (with_reducible refine Below.alloc ?_ ?_ _) | (with_reducible refine Below.setCell ?_ ?_ _) | (with_reducible refine Below.drew ?_) | (with_reducible refine below_setRow ?_ ?_ _) | (refine Below.trans ?_ (Below.mono (by assumption) ?_)))); all_goals (first | omega | (simp; done) | (simp; omega)))))).mono ?_
    rintro r w1 ⟨g, cap, rfl, ho, hb1⟩
    have hz1 := hb1.size
    simp only [World.size_alloc] at hz1
    have hgl := (ho.lt g rfl).2
    have hg1 := (ho.lt g rfl).1
    simp only [World.size_alloc] at hg1
    have hcap := own_lecapR ho
    have hRes := (hb1.block w.heap.size (by simp)).trans (hset_new (o := .cells (fcs zeroR) 44 (0, 0)) rfl)
    have HO := Lib.hid ho; have HRes := Lib.hid hRes; clear ho hRes hparts
    have hT1 : Below w.heap.size w w1 := ((Below.refl _ _).alloc (Nat.le_refl _) _).trans (hb1.mono (by simp))
    have q0 := own_cell HO.out (j := 0) (l := x0) rfl
    have hnum : ∀ (x : List UInt8) (W : World), TxtW W → x.length ≤ 1048576 → Calls Tryz.prog 22 #[.string ⟨x.toArray⟩] W fun r w' => r = .returned (.tuple #[.int .i64 (numD x), .bool (numUpto 999999999 x).isSome]) ∧ Below W.heap.size W w' := fun x W hW hx => implNumber_any ⟨x.toArray⟩ W hW.num (by simpa [ByteArray.size] using hx)
    obtain ⟨N0, hN0⟩ : ∃ N0, numD x0 = N0 := ⟨_, rfl⟩
    have hn0 := fun W hW => hnum x0 W hW hx0
    rw [hN0] at hn0
    go_wp2_with fail
    refine (hn0 _ (HW.out.keep hT1)).mono ?_
    rintro r w4 ⟨rfl, hb4⟩
    have hT4 : Below w.heap.size w w4 := hT1.trans (hb4.mono hT1.size)
    have HO4 := Lib.hid (owns_below HO.out hb4 (Nat.le_refl _))
    have HRes4 := Lib.hid ((hb4.block w.heap.size (by omega)).trans HRes.out)
    have hg4 : g < w4.heap.size := Nat.lt_of_lt_of_le hgl hb4.size
    have hz4 := hT4.size
    have hR4l := box_lt HRes4.out
    clear hb4 hn0 q0 HO HRes
    obtain ⟨F, hFe⟩ : ∃ F, w4.heap.size = F := ⟨_, rfl⟩
    have hgF : g < F := by omega
    go_wp2_with fail
    go_loopw [8] (fun kv wi => ∃ k : Nat, k ≤ 8 ∧ kv = .int .i64 (k + 1) ∧ wi.heap[F]? = some (.cells (fcs ⟨N0, kf x1 k 0, false, false, 0⟩) 44 (0, 0)) ∧ Below F w4 wi) (fun kv _ => 9 - (intOf kv).toNat)
    case atStart => exact ⟨0, by omega, rfl, hset_new hFe.symm, (Below.refl F _).alloc (by omega) _⟩
    case round =>
      obtain ⟨k, hk, rfl, hFi, hbi⟩ := hrel
      obtain ⟨c0, c1, c2, c3, c4, fz⟩ := fbox_cells hFi
      simp only at c0 c1 c2 c3 c4
      have hFl := box_lt hFi
      have hq : wr.cell? ⟨g, 1, none⟩ = some (.string ⟨x1.toArray⟩) := (World.cell?_of_block (a := ⟨g, 1, none⟩) (hbi.block g hgF)).trans (own_cell HO4.out (j := 1) (l := x1) rfl)
      have hgi : g < wr.heap.size := by omega
      have HFi := Lib.hid hFi; clear hFi
      by_cases hk8 : k < 8
      · obtain ⟨K, hK⟩ : ∃ K, kindL ((k : Int) + 1) = K := ⟨_, rfl⟩
        have hkw : ∀ W : World, Calls Tryz.prog 43 #[.int .i64 ((k : Int) + 1)] W fun r w' => r = .returned (.string ⟨K.toArray⟩) ∧ Below W.heap.size W w' := fun W => by
          have := implKindWord_any ((k : Int) + 1) W
          rw [hK] at this; exact this
        have hk9 : (k : Int) + 1 ≤ 8 := by omega
        by_cases hxK : x1 = K
        · have hkf : kf x1 (k + 1) 0 = (k : Int) + 1 := by rw [kf, if_pos (by rw [hxK, ← hK]; rfl)]; rfl
          have e1 : (K == x1) = true := by simpa using hxK.symm
          have e2 : ((⟨K.toArray⟩ : ByteArray).toList == (⟨x1.toArray⟩ : ByteArray).toList) = true := by rw [hxK]; simp
          clear hxK hK
          go_wp2_with fail
          (refine wp_region_ext (by kernel_rfl) (by kernel_rfl) ?_; (repeat (go_big_quiet_step (first | (go_at_call 43; refine Calls.ext_of (hkw _))))); refine wpQuiet_nil ?_; intro w12 hb12; obtain ⟨hc12, hf12⟩ := bcell hb12; have hz12 := hb12.size; (try simp only [World.size_alloc, World.size_setCell, World.size_drew] at hz12))
          have hF12 := (hb12.block F hFl).trans HFi.out
          obtain ⟨c0', c1', c2', c3', c4', fz'⟩ := fbox_cells hF12
          have HF12 := Lib.hid hF12
          have hFl2 := box_lt hF12
          have hT12 : Below F w4 w12 := hbi.trans (hb12.mono (by omega))
          clear hb12 hc12 hf12 hF12 c0 c1 c2 c3 c4 fz
          go_wp2_with fail
          go_roundw
          case rel => exact ⟨k + 1, by omega, by go_num, fbox_set HF12.out (by rw [hkf]; rfl), hT12.setCell (Nat.le_refl _) _⟩
          case measure => simp [intOf]; omega
        · have hkf : kf x1 (k + 1) 0 = kf x1 k 0 := by rw [kf, if_neg (by rw [show ((k + 1 : Nat) : Int) = (k : Int) + 1 from rfl, hK]; exact hxK)]
          have e1 : (K == x1) = false := by rw [beq_eq_false_iff_ne]; exact fun e => hxK e.symm
          have e2 : ((⟨K.toArray⟩ : ByteArray).toList == (⟨x1.toArray⟩ : ByteArray).toList) = false := by rw [beq_bytes, decide_eq_false]; intro e; apply hxK; have := congrArg bL e; simpa [bL] using this.symm
          clear hxK hK
          go_wp2_with fail
          (refine wp_region_ext (by kernel_rfl) (by kernel_rfl) ?_; (repeat (go_big_quiet_step (first | (go_at_call 43; refine Calls.ext_of (hkw _))))); refine wpQuiet_nil ?_; intro w12 hb12; obtain ⟨hc12, hf12⟩ := bcell hb12; have hz12 := hb12.size; (try simp only [World.size_alloc, World.size_setCell, World.size_drew] at hz12))
          have hF12 := (hb12.block F hFl).trans HFi.out
          have HF12 := Lib.hid hF12
          have hT12 : Below F w4 w12 := hbi.trans (hb12.mono (by omega))
          clear hb12 hc12 hf12 hF12 c0 c1 c2 c3 c4 fz
          go_wp2_with fail
          go_roundw
          case rel => exact ⟨k + 1, by omega, by go_num, by rw [hkf]; exact HF12.out, hT12⟩
          case measure => simp [intOf]; omega
      · obtain rfl : k = 8 := by omega
        have hcl : (2 : Int) ≤ cap := by simp at hcap; omega
        have hcl2 : (2 : Int) ≤ ((x0 :: x1 :: wr1).length : Int) := by simp; omega
        clear c0 c1 c2 c3 c4 fz hq
        by_cases hc2 : cap = 2
        · have hw0 : wr1.length = 0 := by simp at hcap; omega
          go_wp2_with fail
          go_loopw [41] (fun i wi => ∃ j : Nat, j ≤ wr1.length ∧ i = .int .i64 j ∧ (∃ f : Fld, wi.heap[F]? = some (.cells (fcs f) 44 (0, 0)) ∧ Hid (f = (wr1.take j).foldl stepI ⟨N0, kf x1 8 0, false, false, 0⟩)) ∧ Below F w4 wi) (fun i _ => wr1.length - (intOf i).toNat)
          case atStart => exact ⟨0, Nat.zero_le _, rfl, ⟨_, HFi.out, Lib.hid rfl⟩, hbi⟩
          case round =>
            obtain ⟨j, hj, rfl, ⟨f, hF, HFo⟩, hb⟩ := hrel
            have hFl := box_lt hF
            have HF := Lib.hid hF; clear hF HFi
            by_cases hlt : j < wr1.length
            · omega
            · have hje : j = wr1.length := by omega
              have hfs : f = implP x0 x1 wr1 := by rw [HFo.out, hje, List.take_of_length_le (Nat.le_refl _), ← hN0]; rfl
              have HFS := Lib.hid hfs; clear hfs
              obtain ⟨c0, c1, c2, c3, c4, fz⟩ := fbox_cells HF.out
              obtain ⟨G, hG⟩ : ∃ G, fieldL f = G := ⟨_, rfl⟩
              have hft : ∀ W : World, TabW W → Calls Tryz.prog 30 #[.agg #[.int .i64 f.number, .int .i64 f.kind, .bool f.rep, .bool f.packed, .int .i64 f.msg]] W fun r w' => r = .returned (.string ⟨G.toArray⟩) ∧ Below W.heap.size W w' := fun W hW => by
                have := implFieldText_any f W hW
                rw [sB, hG] at this; exact this
              have HRes0 := (hb.block w.heap.size (by omega)).trans HRes4.out
              have HRl := box_lt HRes0
              have HRS := Lib.hid HRes0; clear HRes0
              have hTw : Below w.heap.size w wr := hT4.trans (hb.mono (by omega))
              have hRF : ¬ w.heap.size = F := by omega
              have hRF2 : ¬ F = w.heap.size := by omega
              go_wp2_with fail
              refine (hft _ (HW.out.keep hTw).num.tab).mono ?_
              rintro r w14 ⟨rfl, hb14⟩
              have hF14 := (hb14.block F hFl).trans HF.out
              have hR14 := (hb14.block w.heap.size HRl).trans HRS.out
              obtain ⟨d0, d1, d2, d3, d4, dz⟩ := fbox_cells hF14
              obtain ⟨r0, r1, r2, r3, r4, rz⟩ := fbox_cells hR14
              simp only at r0 r1 r2 r3 r4
              have hRl14 := box_lt hR14
              have hT14 : Below w.heap.size w w14 := hTw.trans (hb14.mono hTw.size)
              by_cases heq : G = bL s
              · have hRR2 : (RF, RB) = (f, true) := by rw [HRR.out, if_pos (by rw [← HFS.out, hG, heq]), ← HFS.out]
                simp only [Prod.mk.injEq] at hRR2
                obtain ⟨rfl, rfl⟩ := hRR2
                have e1 : ((⟨G.toArray⟩ : ByteArray).toList == s.toList) = true := by rw [heq, ← str_of_bL]; simp
                have e2 : (G == s.toList) = true := by rw [ByteArray.toList_eq, heq]; simp [bL]
                clear heq hG hft HF HFS hF14 hR14 c0 c1 c2 c3 c4 fz
                go_wp2_with fail
                refine bodyPost_ret (v := .tuple #[RF.val, .bool true]) (by simp [results, Tryz.results23, go_sem, hRl14, r0, r1, r2, r3, r4]) rfl ⟨rfl, ((((hT14.setCell (Nat.le_refl _) _).setCell (Nat.le_refl _) _).setCell (Nat.le_refl _) _).setCell (Nat.le_refl _) _).setCell (Nat.le_refl _) _⟩
              · have hRR2 : (RF, RB) = (zeroR, false) := by rw [HRR.out, if_neg (by rw [← HFS.out, hG]; exact heq)]
                simp only [Prod.mk.injEq] at hRR2
                obtain ⟨rfl, rfl⟩ := hRR2
                have e1 : ((⟨G.toArray⟩ : ByteArray).toList == s.toList) = false := by rw [beq_bytes, decide_eq_false]; intro e; apply heq; have := congrArg bL e; simpa [bL] using this
                have e2 : (G == s.toList) = false := by rw [ByteArray.toList_eq, beq_eq_false_iff_ne]; exact heq
                clear heq hG hft HF HFS hF14 hR14 c0 c1 c2 c3 c4 fz d0 d1 d2 d3 d4 dz
                go_wp2_with fail
                refine bodyPost_ret (v := .tuple #[zeroR.val, .bool false]) (by simp [results, Tryz.results23, go_sem, zeroR, hRl14, r0, r1, r2, r3, r4]) rfl ⟨rfl, ((((hT14.setCell (Nat.le_refl _) _).setCell (Nat.le_refl _) _).setCell (Nat.le_refl _) _).setCell (Nat.le_refl _) _).setCell (Nat.le_refl _) _⟩
        · have hc3 : 2 < cap := by omega
          simp only [show ((8 : Nat) : Int) + 1 = 9 from rfl]
          go_wp2_with fail
          go_loopw [41] (fun i wi => ∃ j : Nat, j ≤ wr1.length ∧ i = .int .i64 j ∧ (∃ f : Fld, wi.heap[F]? = some (.cells (fcs f) 44 (0, 0)) ∧ Hid (f = (wr1.take j).foldl stepI ⟨N0, kf x1 8 0, false, false, 0⟩)) ∧ Below F w4 wi) (fun i _ => wr1.length - (intOf i).toNat)
          case atStart => exact ⟨0, Nat.zero_le _, rfl, ⟨_, HFi.out, Lib.hid rfl⟩, hbi⟩
          case round =>
            obtain ⟨j, hj, rfl, ⟨f, hF, HFo⟩, hb⟩ := hrel
            have hFl := box_lt hF
            have HF := Lib.hid hF; clear hF HFi
            by_cases hlt : j < wr1.length
            · obtain ⟨x, hx, hxm⟩ := at_lt (xs := wr1) (k := j) hlt
              have hq : wr.cell? ⟨g, 2 + j, none⟩ = some (.string ⟨x.toArray⟩) := (World.cell?_of_block (a := ⟨g, 2 + j, none⟩) (hb.block g hgF)).trans (own_cell HO4.out (j := 2 + j) (l := x) (by rw [show 2 + j = j + 1 + 1 by omega, List.getElem?_cons_succ, List.getElem?_cons_succ]; exact hx))
              have HFn := Lib.hid (foldl_snocI (f0 := ⟨N0, kf x1 8 0, false, false, 0⟩) hx)
              rw [← HFo.out] at HFn
              have hxl := hwx x (List.mem_cons_of_mem _ (List.mem_cons_of_mem _ hxm))
              have hgi : g < wr.heap.size := by omega
              have hgne : ¬ g = F := by omega
              have hgne2 : ¬ F = g := by omega
              have hlc : (j : Int) < (wr1.length : Int) := by omega
              obtain ⟨c0, c1, c2, c3, c4, fz⟩ := fbox_cells HF.out
              obtain ⟨a1, a2, a3, a4, a5⟩ := f
              simp only at c0 c1 c2 c3 c4 HF
              clear hx hxm HFo
              by_cases hrp : x = repW
              · have r1 : ((⟨x.toArray⟩ : ByteArray).toList == (⟨#[114, 101, 112, 101, 97, 116, 101, 100]⟩ : ByteArray).toList) = true := by rw [beq_bytes]; exact decide_eq_true (by rw [hrp]; rfl)
                have r3 : (x == [114, 101, 112, 101, 97, 116, 101, 100]) = true := by rw [beq_iff_eq]; exact hrp
                have HH := Lib.hid (show (wr1.take (j + 1)).foldl stepI ⟨N0, kf x1 8 0, false, false, 0⟩ = ⟨a1, a2, true, a4, a5⟩ by rw [HFn.out, stepI, if_pos hrp])
                clear hrp HFn
                go_wp2_with fail
                go_roundw
                case rel => exact ⟨j + 1, by omega, by go_num, ⟨⟨a1, a2, true, a4, a5⟩, fbox_set HF.out rfl, Lib.hid HH.out.symm⟩, hb.setCell (Nat.le_refl _) _⟩
                case measure => simp [intOf]; omega
              · have r1 : ((⟨x.toArray⟩ : ByteArray).toList == (⟨#[114, 101, 112, 101, 97, 116, 101, 100]⟩ : ByteArray).toList) = false := by rw [beq_bytes, decide_eq_false]; intro e; apply hrp; have := congrArg bL e; simpa [bL, repW] using this
                have r3 : (x == [114, 101, 112, 101, 97, 116, 101, 100]) = false := by rw [beq_eq_false_iff_ne]; exact hrp
                by_cases hpk : x = packW
                · have p1 : ((⟨x.toArray⟩ : ByteArray).toList == (⟨#[112, 97, 99, 107, 101, 100]⟩ : ByteArray).toList) = true := by rw [beq_bytes]; exact decide_eq_true (by rw [hpk]; rfl)
                  have p3 : (x == [112, 97, 99, 107, 101, 100]) = true := by rw [beq_iff_eq]; exact hpk
                  have HH := Lib.hid (show (wr1.take (j + 1)).foldl stepI ⟨N0, kf x1 8 0, false, false, 0⟩ = ⟨a1, a2, a3, true, a5⟩ by rw [HFn.out, stepI, if_neg hrp, if_pos hpk])
                  clear hrp hpk HFn
                  go_wp2_with fail
                  go_roundw
                  case rel => exact ⟨j + 1, by omega, by go_num, ⟨⟨a1, a2, a3, true, a5⟩, fbox_set HF.out rfl, Lib.hid HH.out.symm⟩, hb.setCell (Nat.le_refl _) _⟩
                  case measure => simp [intOf]; omega
                · have p1 : ((⟨x.toArray⟩ : ByteArray).toList == (⟨#[112, 97, 99, 107, 101, 100]⟩ : ByteArray).toList) = false := by rw [beq_bytes, decide_eq_false]; intro e; apply hpk; have := congrArg bL e; simpa [bL, packW] using this
                  have p3 : (x == [112, 97, 99, 107, 101, 100]) = false := by rw [beq_eq_false_iff_ne]; exact hpk
                  obtain ⟨V, hV⟩ : ∃ V, numD x = V := ⟨_, rfl⟩
                  have hnx : ∀ W : World, TxtW W → Calls Tryz.prog 22 #[.string ⟨x.toArray⟩] W fun r w' => r = .returned (.tuple #[.int .i64 V, .bool (numUpto 999999999 x).isSome]) ∧ Below W.heap.size W w' := fun W hW => by
                    have := hnum x W hW hxl
                    rw [hV] at this; exact this
                  have HH := Lib.hid (show (wr1.take (j + 1)).foldl stepI ⟨N0, kf x1 8 0, false, false, 0⟩ = ⟨a1, a2, a3, a4, V⟩ by rw [HFn.out, stepI, if_neg hrp, if_neg hpk, hV])
                  have hTw : Below w.heap.size w wr := hT4.trans (hb.mono (by omega))
                  clear hrp hpk HFn hV
                  go_wp2_with fail
                  refine (hnx _ (HW.out.keep hTw)).mono ?_
                  rintro r w13 ⟨rfl, hb13⟩
                  have hF13 := (hb13.block F hFl).trans HF.out
                  obtain ⟨c0', c1', c2', c3', c4', fz'⟩ := fbox_cells hF13
                  have HF13 := Lib.hid hF13
                  have hT13 : Below F w4 w13 := hb.trans (hb13.mono (by omega))
                  have hFl13 := box_lt hF13
                  clear hb13 hF13 c0 c1 c2 c3 c4 fz hnx
                  go_wp2_with fail
                  go_roundw
                  case rel => exact ⟨j + 1, by omega, by go_num, ⟨⟨a1, a2, a3, a4, V⟩, fbox_set HF13.out rfl, Lib.hid HH.out.symm⟩, hT13.setCell (Nat.le_refl _) _⟩
                  case measure => simp [intOf]; omega
            · have hje : j = wr1.length := by omega
              have hfs : f = implP x0 x1 wr1 := by rw [HFo.out, hje, List.take_of_length_le (Nat.le_refl _), ← hN0]; rfl
              have HFS := Lib.hid hfs; clear hfs
              obtain ⟨c0, c1, c2, c3, c4, fz⟩ := fbox_cells HF.out
              obtain ⟨G, hG⟩ : ∃ G, fieldL f = G := ⟨_, rfl⟩
              have hft : ∀ W : World, TabW W → Calls Tryz.prog 30 #[.agg #[.int .i64 f.number, .int .i64 f.kind, .bool f.rep, .bool f.packed, .int .i64 f.msg]] W fun r w' => r = .returned (.string ⟨G.toArray⟩) ∧ Below W.heap.size W w' := fun W hW => by
                have := implFieldText_any f W hW
                rw [sB, hG] at this; exact this
              have HRes0 := (hb.block w.heap.size (by omega)).trans HRes4.out
              have HRl := box_lt HRes0
              have HRS := Lib.hid HRes0; clear HRes0
              have hTw : Below w.heap.size w wr := hT4.trans (hb.mono (by omega))
              have hRF : ¬ w.heap.size = F := by omega
              have hRF2 : ¬ F = w.heap.size := by omega
              go_wp2_with fail
              refine (hft _ (HW.out.keep hTw).num.tab).mono ?_
              rintro r w14 ⟨rfl, hb14⟩
              have hF14 := (hb14.block F hFl).trans HF.out
              have hR14 := (hb14.block w.heap.size HRl).trans HRS.out
              obtain ⟨d0, d1, d2, d3, d4, dz⟩ := fbox_cells hF14
              obtain ⟨r0, r1, r2, r3, r4, rz⟩ := fbox_cells hR14
              simp only at r0 r1 r2 r3 r4
              have hRl14 := box_lt hR14
              have hT14 : Below w.heap.size w w14 := hTw.trans (hb14.mono hTw.size)
              by_cases heq : G = bL s
              · have hRR2 : (RF, RB) = (f, true) := by rw [HRR.out, if_pos (by rw [← HFS.out, hG, heq]), ← HFS.out]
                simp only [Prod.mk.injEq] at hRR2
                obtain ⟨rfl, rfl⟩ := hRR2
                have e1 : ((⟨G.toArray⟩ : ByteArray).toList == s.toList) = true := by rw [heq, ← str_of_bL]; simp
                have e2 : (G == s.toList) = true := by rw [ByteArray.toList_eq, heq]; simp [bL]
                clear heq hG hft HF HFS hF14 hR14 c0 c1 c2 c3 c4 fz
                go_wp2_with fail
                refine bodyPost_ret (v := .tuple #[RF.val, .bool true]) (by simp [results, Tryz.results23, go_sem, hRl14, r0, r1, r2, r3, r4]) rfl ⟨rfl, ((((hT14.setCell (Nat.le_refl _) _).setCell (Nat.le_refl _) _).setCell (Nat.le_refl _) _).setCell (Nat.le_refl _) _).setCell (Nat.le_refl _) _⟩
              · have hRR2 : (RF, RB) = (zeroR, false) := by rw [HRR.out, if_neg (by rw [← HFS.out, hG]; exact heq)]
                simp only [Prod.mk.injEq] at hRR2
                obtain ⟨rfl, rfl⟩ := hRR2
                have e1 : ((⟨G.toArray⟩ : ByteArray).toList == s.toList) = false := by rw [beq_bytes, decide_eq_false]; intro e; apply heq; have := congrArg bL e; simpa [bL] using this
                have e2 : (G == s.toList) = false := by rw [ByteArray.toList_eq, beq_eq_false_iff_ne]; exact heq
                clear heq hG hft HF HFS hF14 hR14 c0 c1 c2 c3 c4 fz d0 d1 d2 d3 d4 dz
                go_wp2_with fail
                refine bodyPost_ret (v := .tuple #[zeroR.val, .bool false]) (by simp [results, Tryz.results23, go_sem, zeroR, hRl14, r0, r1, r2, r3, r4]) rfl ⟨rfl, ((((hT14.setCell (Nat.le_refl _) _).setCell (Nat.le_refl _) _).setCell (Nat.le_refl _) _).setCell (Nat.le_refl _) _).setCell (Nat.le_refl _) _⟩
def fwords (f : Fld) : List (List UInt8) := Lib.itoa f.number :: kindL f.kind :: ((if f.kind = 8 then [Lib.itoa f.msg] else []) ++ ((if f.rep = true then [repW] else []) ++ (if f.packed = true then [packW] else [])))
theorem itoa_nat {n : Int} (h : 0 ≤ n) : Lib.itoa n = Lib.decDigits n.toNat := by unfold Lib.itoa; rw [if_neg (by omega)]
theorem dec_neq {l : List UInt8} (h : Lib.decFrom 0 l = none) (v : Nat) : Lib.decDigits v ≠ l := fun e => by rw [← e, decFrom_dec] at h; cases h
theorem kind_nodec {k : Int} (h1 : 1 ≤ k) (h2 : k ≤ 8) : Lib.decFrom 0 (kindL k) = none := by rcases eightK h1 h2 with rfl | rfl | rfl | rfl | rfl | rfl | rfl | rfl <;> rfl
theorem nodec_num {l : List UInt8} (h : Lib.decFrom 0 l = none) (N : Nat) : numUpto N l = none := by simp only [numUpto, h]
theorem kf_dec (v : Nat) (k0 : Int) : kf (Lib.decDigits v) 8 k0 = k0 := by
  have h : ∀ j : Nat, 1 ≤ j → j ≤ 8 → ¬ Lib.decDigits v = kindL (j : Int) := fun j h1 h2 => dec_neq (kind_nodec (by omega) (by omega)) v
  simp only [kf]
  rw [if_neg (h 8 (by omega) (by omega)), if_neg (h 7 (by omega) (by omega)), if_neg (h 6 (by omega) (by omega)), if_neg (h 5 (by omega) (by omega)), if_neg (h 4 (by omega) (by omega)), if_neg (h 3 (by omega) (by omega)), if_neg (h 2 (by omega) (by omega)), if_neg (h 1 (by omega) (by omega))]
theorem kf_kind {k : Int} (h1 : 1 ≤ k) (h2 : k ≤ 8) (k0 : Int) : kf (kindL k) 8 k0 = k := by rcases eightK h1 h2 with rfl | rfl | rfl | rfl | rfl | rfl | rfl | rfl <;> rfl
theorem kf_rep (k0 : Int) : kf repW 8 k0 = k0 := rfl
theorem kf_pack (k0 : Int) : kf packW 8 k0 = k0 := rfl
theorem kind_norep {k : Int} (h1 : 1 ≤ k) (h2 : k ≤ 8) : ¬ kindL k = repW ∧ ¬ kindL k = packW := by rcases eightK h1 h2 with rfl | rfl | rfl | rfl | rfl | rfl | rfl | rfl <;> exact ⟨by decide, by decide⟩
theorem rep_nodec : Lib.decFrom 0 repW = none := rfl
theorem pack_nodec : Lib.decFrom 0 packW = none := rfl
theorem numD_dec {v : Nat} (h : v ≤ 999999999) : numD (Lib.decDigits v) = v := by rw [numD, numUpto_yes h]; rfl
theorem stepS_kind {f : Fld} {k : Int} (h1 : 1 ≤ k) (h2 : k ≤ 8) : stepS f (kindL k) = ⟨f.number, k, f.rep, f.packed, f.msg⟩ := by
  obtain ⟨a, b⟩ := kind_norep h1 h2
  rw [stepS, kf_kind h1 h2, nodec_num (kind_nodec h1 h2), decide_eq_false a, decide_eq_false b, Bool.or_false, Bool.or_false]
theorem stepS_num {f : Fld} {v : Nat} (h : v ≤ 999999999) : stepS f (Lib.decDigits v) = ⟨f.number, f.kind, f.rep, f.packed, v⟩ := by
  rw [stepS, kf_dec, numUpto_yes h, decide_eq_false (dec_neq rep_nodec v), decide_eq_false (dec_neq pack_nodec v), Bool.or_false, Bool.or_false]
theorem stepS_rep {f : Fld} : stepS f repW = ⟨f.number, f.kind, true, f.packed, f.msg⟩ := by
  rw [stepS, kf_rep, nodec_num rep_nodec, decide_eq_true rfl, decide_eq_false (by decide), Bool.or_true, Bool.or_false]
theorem stepS_pack {f : Fld} : stepS f packW = ⟨f.number, f.kind, f.rep, true, f.msg⟩ := by
  rw [stepS, kf_pack, nodec_num pack_nodec, decide_eq_true rfl, decide_eq_false (by decide), Bool.or_true, Bool.or_false]
theorem stepI_num {f : Fld} {v : Nat} (h : v ≤ 999999999) : stepI f (Lib.decDigits v) = ⟨f.number, f.kind, f.rep, f.packed, v⟩ := by
  rw [stepI, if_neg (dec_neq rep_nodec v), if_neg (dec_neq pack_nodec v), numD_dec h]
theorem stepI_rep {f : Fld} : stepI f repW = ⟨f.number, f.kind, true, f.packed, f.msg⟩ := rfl
theorem stepI_pack {f : Fld} : stepI f packW = ⟨f.number, f.kind, f.rep, true, f.msg⟩ := by rw [stepI, if_neg (by decide), if_pos rfl]
theorem okT_parts {f : Fld} (h : fieldOkT f = true) : (1 ≤ f.number ∧ f.number ≤ 536870911) ∧ (1 ≤ f.kind ∧ f.kind ≤ 8) ∧ ((f.kind = 8 ∧ 1 ≤ f.msg ∧ f.msg ≤ 99) ∨ (f.kind ≠ 8 ∧ f.msg = 0)) := by
  simp only [fieldOkT, Bool.and_eq_true, inB, decide_eq_true_eq] at h
  obtain ⟨h1, h2, h3⟩ := h
  refine ⟨h1, h2, ?_⟩
  by_cases h8 : f.kind = 8
  · rw [if_pos h8] at h3; exact .inl ⟨h8, by simpa using h3⟩
  · rw [if_neg h8] at h3; exact .inr ⟨h8, by simpa using h3⟩
theorem specP_words {f : Fld} (h : fieldOkT f = true) : specP (fwords f) = f := by
  obtain ⟨⟨h1, h2⟩, ⟨k1, k2⟩, hm⟩ := okT_parts h
  obtain ⟨n, k, rp, pk, m⟩ := f
  simp only at h1 h2 k1 k2 hm
  have e1 : numD (Lib.itoa n) = n := by rw [itoa_nat (by omega), numD_dec (by omega)]; omega
  rcases hm with ⟨h8, m1, m2⟩ | ⟨h8, rfl⟩
  · have em : ∀ g : Fld, stepS g (Lib.itoa m) = ⟨g.number, g.kind, g.rep, g.packed, m⟩ := fun g => by
      rw [itoa_nat (by omega), stepS_num (by omega), show ((m.toNat : Nat) : Int) = m by omega]
    subst h8
    cases rp <;> cases pk <;> simp [specP, fwords, e1, stepS_kind, em, stepS_rep, stepS_pack]
  · cases rp <;> cases pk <;> simp [specP, fwords, e1, stepS_kind k1 k2, h8, stepS_rep, stepS_pack]
theorem implP_words {f : Fld} (h : fieldOkT f = true) : implP (Lib.itoa f.number) (kindL f.kind) ((if f.kind = 8 then [Lib.itoa f.msg] else []) ++ ((if f.rep = true then [repW] else []) ++ (if f.packed = true then [packW] else []))) = f := by
  obtain ⟨⟨h1, h2⟩, ⟨k1, k2⟩, hm⟩ := okT_parts h
  obtain ⟨n, k, rp, pk, m⟩ := f
  simp only at h1 h2 k1 k2 hm ⊢
  have e1 : numD (Lib.itoa n) = n := by rw [itoa_nat (by omega), numD_dec (by omega)]; omega
  rcases hm with ⟨h8, m1, m2⟩ | ⟨h8, rfl⟩
  · have em : ∀ g : Fld, stepI g (Lib.itoa m) = ⟨g.number, g.kind, g.rep, g.packed, m⟩ := fun g => by
      rw [itoa_nat (by omega), stepI_num (by omega), show ((m.toNat : Nat) : Int) = m by omega]
    subst h8
    cases rp <;> cases pk <;> simp [implP, e1, kf_kind, em, stepI_rep, stepI_pack]
  · cases rp <;> cases pk <;> simp [implP, e1, kf_kind k1 k2, h8, stepI_rep, stepI_pack]
theorem dec_free (u : Nat) : ∀ b ∈ Lib.decDigits u, 48 ≤ b.toNat ∧ b.toNat ≤ 57 := by
  induction u using Nat.strongRecOn with
  | _ u ih =>
    by_cases h : u < 10
    · rw [dec_lt h]; intro b hb; rw [List.mem_singleton] at hb; subst hb
      have : (UInt8.ofNat (48 + u)).toNat = 48 + u := by rw [UInt8.toNat_ofNat']; omega
      omega
    · rw [dec_ge h]; intro b hb
      rcases List.mem_append.1 hb with hb | hb
      · exact ih (u / 10) (by omega) b hb
      · rw [List.mem_singleton] at hb; subst hb
        have : (UInt8.ofNat (48 + u % 10)).toNat = 48 + u % 10 := by rw [UInt8.toNat_ofNat']; omega
        omega
theorem itoa_free {n : Int} (h : 0 ≤ n) : ∀ b ∈ Lib.itoa n, 48 ≤ b.toNat ∧ b.toNat ≤ 57 := by rw [itoa_nat h]; exact dec_free _
theorem kind_free {k : Int} (h1 : 1 ≤ k) (h2 : k ≤ 8) : ∀ b ∈ kindL k, 97 ≤ b.toNat ∧ b.toNat ≤ 122 := by rcases eightK h1 h2 with rfl | rfl | rfl | rfl | rfl | rfl | rfl | rfl <;> decide
theorem rep_free : ∀ b ∈ repW, 97 ≤ b.toNat ∧ b.toNat ≤ 122 := by decide
theorem pack_free : ∀ b ∈ packW, 97 ≤ b.toNat ∧ b.toNat ≤ 122 := by decide
theorem fwords_free {f : Fld} (h : fieldOkT f = true) : ∀ w ∈ fwords f, ∀ b ∈ w, 48 ≤ b.toNat ∧ b.toNat ≠ 58 ∧ b.toNat ≠ 59 := by
  obtain ⟨⟨h1, h2⟩, ⟨k1, k2⟩, hm⟩ := okT_parts h
  intro w hw b hb
  simp only [fwords, List.mem_cons, List.mem_append] at hw
  rcases hw with rfl | rfl | hw | hw | hw
  · have := itoa_free (by omega) b hb; omega
  · have := kind_free k1 k2 b hb; omega
  · rcases hm with ⟨h8, m1, m2⟩ | ⟨h8, hm⟩
    · rw [if_pos h8, List.mem_singleton] at hw; subst hw; have := itoa_free (by omega) b hb; omega
    · rw [if_neg h8] at hw; cases hw
  · split at hw
    · rw [List.mem_singleton] at hw; subst hw; have := rep_free b hb; omega
    · cases hw
  · split at hw
    · rw [List.mem_singleton] at hw; subst hw; have := pack_free b hb; omega
    · cases hw
theorem fieldL_join {f : Fld} (h : fieldOkT f = true) : fieldL f = Lib.join (fwords f) [32] := by
  rw [fieldL_ok h]
  obtain ⟨n, k, rp, pk, m⟩ := f
  simp only [fwords]
  by_cases h8 : k = 8
  · cases rp <;> cases pk <;> simp [h8, Lib.join_cons, Lib.joinTail, repW, packW]
  · cases rp <;> cases pk <;> simp [h8, Lib.join_cons, Lib.joinTail, repW, packW]
theorem fwords_ne (f : Fld) : fwords f ≠ [] := by simp [fwords]
theorem fwords_len (f : Fld) : (fwords f).length ≤ 5 := by
  simp only [fwords, List.length_cons, List.length_append]
  split <;> split <;> split <;> simp
theorem partsL_field {f : Fld} (h : fieldOkT f = true) : partsL 32 (fieldL f) = fwords f := by
  rw [fieldL_join h]
  exact partsL_join (fwords_ne f) fun w hw b hb e => by have := fwords_free h w hw b hb; rw [e] at this; exact absurd this.1 (by decide)
theorem splitL_field {f : Fld} (h : fieldOkT f = true) : splitL 6 (fieldL f) 32 = fwords f := by
  have h1 := partsL_len 32 (fieldL f)
  rw [partsL_field h] at h1
  have h2 := fwords_len f
  rw [splitL]
  obtain ⟨K, hK⟩ : ∃ K, min 6 ((fieldL f).length + 1) - 1 = K := ⟨_, rfl⟩
  rw [hK, fieldL_join h]
  exact splitK_join (fwords_ne f) (by omega) fun w hw b hb e => by have := fwords_free h w hw b hb; rw [e] at this; exact absurd this.1 (by decide)
theorem dec_lenT (k u : Nat) (h1 : 1 ≤ k) (h2 : u < 10 ^ k) : (Lib.decDigits u).length ≤ k := by rw [Lib.decDigits_length]; exact nDig_le k u h1 h2
theorem fieldL_short {f : Fld} (h : fieldOkT f = true) : 1 ≤ (fieldL f).length ∧ (fieldL f).length ≤ 34 := by
  obtain ⟨⟨h1, h2⟩, ⟨k1, k2⟩, hm⟩ := okT_parts h
  rw [fieldL_ok h]
  have a1 : (Lib.itoa f.number).length ≤ 9 := by rw [itoa_nat (by omega)]; exact dec_lenT 9 _ (by omega) (by omega)
  have a2 : (kindL f.kind).length ≤ 5 := kindL_len _
  have a3 : (if f.kind = 8 then [(32 : UInt8)] ++ Lib.itoa f.msg else []).length ≤ 3 := by
    rcases hm with ⟨h8, m1, m2⟩ | ⟨h8, hm⟩
    · rw [if_pos h8, itoa_nat (by omega), List.length_append]
      have := dec_lenT 2 f.msg.toNat (by omega) (by omega)
      simp; omega
    · rw [if_neg h8]; simp
  have a4 : (if f.rep = true then [32, 114, 101, 112, 101, 97, 116, 101, 100] else ([] : List UInt8)).length ≤ 9 := by split <;> simp
  have a5 : (if f.packed = true then [32, 112, 97, 99, 107, 101, 100] else ([] : List UInt8)).length ≤ 7 := by split <;> simp
  simp only [List.length_append] at a3 ⊢
  simp only [List.length_cons, List.length_nil] at a3 ⊢
  omega
theorem readS_of {f : Fld} (h : fieldOkT f = true) : readS (fieldL f) = (f, true) := by
  have := fieldL_short h
  rw [readS, if_neg (by omega), partsL_field h, specP_words h, if_pos rfl]
theorem readI_of {f : Fld} (h : fieldOkT f = true) : readI (fieldL f) = (f, true) := by
  rw [readI, splitL_field h, fwords, readW, implP_words h, if_pos rfl]
end Go.Proofs.YtbjbgneiglopmaaGreatDoor

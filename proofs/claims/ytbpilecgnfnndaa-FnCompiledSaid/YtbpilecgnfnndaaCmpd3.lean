/- Texts that FnCompiled leans on, part 3. (Put together by wip/tools/bundle.py.) -/
import Derived.Laws.Bits128
import Derived.Deep.RegionHeld
import Derived.Test.YtbpilecgnfnndaaCmpd1
import Derived.Test.YtbpilecgnfnndaaCmpd2
namespace Go.Proofs.Ytbpilecgnfnndaa
set_option linter.unusedSimpArgs false
set_option linter.unusedVariables false
open Go.ChangeShapes Go.WideShapes Go.ChangeAt Go.RowKit Go.BigFrame
def hasNum (fs : List Fld) (n : Int) : Bool := fs.any fun f => f.number == n
def hasId (xs : List Shp) (i : Int) : Bool := xs.any fun x => x.id == i
theorem any_hit {α : Type} {p : α → Bool} {xs : List α} {k : Nat} {e : α} (he : xs[k]? = some e) (h : p e = true) : xs.any p = true := List.any_eq_true.2 ⟨e, List.mem_of_getElem? he, h⟩
theorem any_snoc {α : Type} {p : α → Bool} {xs : List α} {k : Nat} {e : α} (he : xs[k]? = some e) : (xs.take (k + 1)).any p = ((xs.take k).any p || p e) := by
  rw [List.take_add_one, he]; simp
set_option maxHeartbeats 2000000 in
theorem l6HasNumber_any (a : Option Addr) (cap n : Nat) (fs : List Fld) (x : Int) (w : World) (h : Flds w a fs) (hl : fs.length = n) (hn : n ≤ 1048576) :
    Calls Try.prog 74 #[.slice a n cap, .int .i64 x] w fun r w' => r = .returned (.bool (hasNum fs x)) ∧ Below w.heap.size w w' := by
  have HL := Lib.hid hl; clear hl
  obtain ⟨R, hR⟩ : ∃ R, hasNum fs x = R := ⟨_, rfl⟩
  rw [hR]
  have HR := Lib.hid hR; clear hR
  go_enter Try.func74, Try.ntmps74
  go_wp2
  go_loop [5] (fun i => ∃ k : Nat, k ≤ n ∧ i = .int .i64 k ∧ Hid ((fs.take k).any (fun f => f.number == x) = false)) (fun i => n - (intOf i).toNat)
  case atStart => exact ⟨0, Nat.zero_le _, rfl, Lib.hid (by simp)⟩
  case round =>
    obtain ⟨k, hk, rfl, HK⟩ := hrel
    by_cases hlt : k < n
    · obtain ⟨f, hf, _⟩ := at_lt (xs := fs) (k := k) (by rw [HL.out]; exact hlt)
      obtain ⟨b, off, rfl, hbl, d0, -⟩ := Flds.at h hf
      have HF := Lib.hid hf; clear hf
      cases hq : (f.number == x)
      · have HK2 := Lib.hid (show (fs.take (k + 1)).any (fun f => f.number == x) = false by rw [any_snoc HF.out, HK.out, hq]; rfl)
        go_wp2
        go_round
        case rel => exact ⟨k + 1, by omega, by go_num, HK2⟩
        case measure => simp [intOf]; omega
      · have HB := Lib.hid (show true = R by rw [← HR.out, hasNum, any_hit HF.out hq])
        go_wp2
        go_ret
        exact ⟨ret_bool HB.out, by ((repeat (first | (with_reducible exact Below.refl _ _) | (with_reducible assumption) | (with_reducible refine Below.alloc ?_ ?_ _) | (with_reducible refine Below.setCell ?_ ?_ _) | (with_reducible refine Below.drew ?_) | (with_reducible refine below_setRow ?_ ?_ _) | (refine Below.trans ?_ (Below.mono (by assumption) ?_)))); all_goals (first | omega | (simp; done) | (simp; omega)))⟩
    · have HB := Lib.hid (show false = R by rw [← HR.out, hasNum]; have := HK.out; rw [List.take_of_length_le (by rw [HL.out]; omega)] at this; exact this.symm)
      go_wp2
      go_ret
      exact ⟨ret_bool HB.out, by ((repeat (first | (with_reducible exact Below.refl _ _) | (with_reducible assumption) | (with_reducible refine Below.alloc ?_ ?_ _) | (with_reducible refine Below.setCell ?_ ?_ _) | (with_reducible refine Below.drew ?_) | (with_reducible refine below_setRow ?_ ?_ _) | (refine Below.trans ?_ (Below.mono (by assumption) ?_)))); all_goals (first | omega | (simp; done) | (simp; omega)))⟩
theorem Shs.at {w : World} {a : Option Addr} {xs : List Shp} (h : Shs w a xs) {k : Nat} {x : Shp} (hx : xs[k]? = some x) :
    ∃ b off a' cap', a = some ⟨b, off, none⟩ ∧ b < w.heap.size ∧ w.cell? ⟨b, off + k * 2, none⟩ = some (.int .i64 x.id) ∧ w.cell? ⟨b, off + k * 2 + 1, none⟩ = some (.slice a' x.flds.length cap') ∧ Flds w a' x.flds := h k x hx
set_option maxHeartbeats 2000000 in
theorem l6HasId_any (a : Option Addr) (cap n m : Nat) (xs : List Shp) (x : Int) (w : World) (h : Shs w a xs) (hl : xs.length = n) (hn : n ≤ 1048576) (hm : m ≤ n) :
    Calls Try.prog 72 #[.agg #[.slice a n cap], .int .i64 x, .int .i64 m] w fun r w' => r = .returned (.bool (hasId (xs.take m) x)) ∧ Below w.heap.size w w' := by
  have HL := Lib.hid hl; clear hl
  obtain ⟨R, hR⟩ : ∃ R, hasId (xs.take m) x = R := ⟨_, rfl⟩
  rw [hR]
  have HR := Lib.hid hR; clear hR
  go_enter Try.func72, Try.ntmps72
  go_wp2
  have hh : Shs (w.alloc (.cells #[.slice a n cap] 26)) a xs := h.keep (by ((repeat (first | (with_reducible exact Below.refl _ _) | (with_reducible assumption) | (with_reducible refine Below.alloc ?_ ?_ _) | (with_reducible refine Below.setCell ?_ ?_ _) | (with_reducible refine Below.drew ?_) | (with_reducible refine below_setRow ?_ ?_ _) | (refine Below.trans ?_ (Below.mono (by assumption) ?_)))); all_goals (first | omega | (simp; done) | (simp; omega))))
  have HH := Lib.hid hh; clear hh
  go_loop [7] (fun i => ∃ k : Nat, k ≤ m ∧ i = .int .i64 k ∧ Hid ((xs.take k).any (fun f => f.id == x) = false)) (fun i => m - (intOf i).toNat)
  case atStart => exact ⟨0, Nat.zero_le _, rfl, Lib.hid (by simp)⟩
  case round =>
    obtain ⟨k, hk, rfl, HK⟩ := hrel
    by_cases hlt : k < m
    · obtain ⟨f, hf, _⟩ := at_lt (xs := xs) (k := k) (by rw [HL.out]; omega)
      obtain ⟨b, off, a', cap', rfl, hbl, d0, -⟩ := Shs.at HH.out hf
      have hkn : k < n := by omega
      have HF := Lib.hid hf; clear hf
      cases hq : (f.id == x)
      · have HK2 := Lib.hid (show (xs.take (k + 1)).any (fun f => f.id == x) = false by rw [any_snoc HF.out, HK.out, hq]; rfl)
        go_wp2
        go_round
        case rel => exact ⟨k + 1, by omega, by go_num, HK2⟩
        case measure => simp [intOf]; omega
      · have HB := Lib.hid (show true = R by rw [← HR.out, hasId]; exact (any_hit (k := k) (e := f) (xs := xs.take m) (p := fun y => y.id == x) (by rw [List.getElem?_take, if_pos hlt]; exact HF.out) hq).symm)
        go_wp2
        go_ret
        exact ⟨ret_bool HB.out, by ((repeat (first | (with_reducible exact Below.refl _ _) | (with_reducible assumption) | (with_reducible refine Below.alloc ?_ ?_ _) | (with_reducible refine Below.setCell ?_ ?_ _) | (with_reducible refine Below.drew ?_) | (with_reducible refine below_setRow ?_ ?_ _) | (refine Below.trans ?_ (Below.mono (by assumption) ?_)))); all_goals (first | omega | (simp; done) | (simp; omega)))⟩
    · obtain rfl : k = m := by omega
      have HB := Lib.hid (show false = R by rw [← HR.out, hasId]; exact HK.out.symm)
      go_wp2
      go_ret
      exact ⟨ret_bool HB.out, by ((repeat (first | (with_reducible exact Below.refl _ _) | (with_reducible assumption) | (with_reducible refine Below.alloc ?_ ?_ _) | (with_reducible refine Below.setCell ?_ ?_ _) | (with_reducible refine Below.drew ?_) | (with_reducible refine below_setRow ?_ ?_ _) | (refine Below.trans ?_ (Below.mono (by assumption) ?_)))); all_goals (first | omega | (simp; done) | (simp; omega)))⟩
def msgC (xs : List Shp) (i : Nat) (x : Shp) : Int := if inB x.id 1 99 = false then 2 else if hasId (xs.take i) x.id = true then 3 else if 8 < x.flds.length then 4 else 0
set_option maxHeartbeats 2000000 in
theorem specMsgCode_any (a : Option Addr) (cap n i : Nat) (xs : List Shp) (x : Shp) (w : World) (h : Shs w a xs) (hl : xs.length = n) (hn : n ≤ 1048576) (hx : xs[i]? = some x) (hi : i < n) (hf : x.flds.length ≤ 1048576) :
    Calls Try.prog 40 #[.agg #[.slice a n cap], .int .i64 i] w fun r w' => r = .returned (.int .i64 (msgC xs i x)) ∧ Below w.heap.size w w' := by
  have HL := Lib.hid hl; clear hl
  obtain ⟨R, hR⟩ : ∃ R, msgC xs i x = R := ⟨_, rfl⟩
  rw [hR]
  have HR := Lib.hid hR; clear hR
  obtain ⟨b, off, a', cap', rfl, hbl, c0, c1, -⟩ := Shs.at h hx
  have HX := Lib.hid hx; clear hx
  have hb1 : inB (i : Int) 0 ((n : Int) - 1) = true := by simp only [inB, decide_eq_true_eq]; omega
  have hii : (i : Int) < (n : Int) := by omega
  have HH := Lib.hid h; clear h
  go_enter Try.func40, Try.ntmps40
  cases h1 : inB x.id 1 99
  · have HB := Lib.hid (show (2 : Int) = R by rw [← HR.out, msgC, if_pos h1])
    go_wp2_with (first | (go_at_call 43; refine (l1In_any _ _ _ _).mono ?_; rintro r w1 ⟨rfl, rfl⟩))
    go_ret
    exact ⟨ret_int HB.out, by ((repeat (first | (with_reducible exact Below.refl _ _) | (with_reducible assumption) | (with_reducible refine Below.alloc ?_ ?_ _) | (with_reducible refine Below.setCell ?_ ?_ _) | (with_reducible refine Below.drew ?_) | (with_reducible refine below_setRow ?_ ?_ _) | (refine Below.trans ?_ (Below.mono (by assumption) ?_)))); all_goals (first | omega | (simp; done) | (simp; omega)))⟩
  · go_wp2_with (first | (go_at_call 43; refine (l1In_any _ _ _ _).mono ?_; rintro r w1 ⟨rfl, rfl⟩))
    refine (l6HasId_any (some ⟨b, off, none⟩) cap n i xs x.id _ (HH.out.keep (by ((repeat (first | (with_reducible exact Below.refl _ _) | (with_reducible assumption) | (with_reducible refine Below.alloc ?_ ?_ _) | (with_reducible refine Below.setCell ?_ ?_ _) | (with_reducible refine Below.drew ?_) | (with_reducible refine below_setRow ?_ ?_ _) | (refine Below.trans ?_ (Below.mono (by assumption) ?_)))); all_goals (first | omega | (simp; done) | (simp; omega))))) HL.out hn (by omega)).mono ?_
    rintro r w2 ⟨rfl, hb2⟩
    have hM := (hb2.block (w.heap.size + 1) (by simp)).trans (hset_new (o := .cells #[.int .i64 x.id, .slice a' x.flds.length cap'] 40) (by simp))
    have kM := box_cells hM
    have hbw : Below w.heap.size w w2 := by ((repeat (first | (with_reducible exact Below.refl _ _) | (with_reducible assumption) | (with_reducible refine Below.alloc ?_ ?_ _) | (with_reducible refine Below.setCell ?_ ?_ _) | (with_reducible refine Below.drew ?_) | (with_reducible refine below_setRow ?_ ?_ _) | (refine Below.trans ?_ (Below.mono (by assumption) ?_)))); all_goals (first | omega | (simp; done) | (simp; omega)))
    clear hb2 hM
    cases h2 : hasId (xs.take i) x.id
    · by_cases h8 : 8 < x.flds.length
      · have HB := Lib.hid (show (4 : Int) = R by rw [← HR.out, msgC, if_neg (by rw [h1]; simp), if_neg (by rw [h2]; simp), if_pos h8])
        have h8' : (8 : Int) < (x.flds.length : Int) := by omega
        go_wp2
        go_ret
        exact ⟨ret_int HB.out, by ((repeat (first | (with_reducible exact Below.refl _ _) | (with_reducible assumption) | (with_reducible refine Below.alloc ?_ ?_ _) | (with_reducible refine Below.setCell ?_ ?_ _) | (with_reducible refine Below.drew ?_) | (with_reducible refine below_setRow ?_ ?_ _) | (refine Below.trans ?_ (Below.mono (by assumption) ?_)))); all_goals (first | omega | (simp; done) | (simp; omega)))⟩
      · have HB := Lib.hid (show (0 : Int) = R by rw [← HR.out, msgC, if_neg (by rw [h1]; simp), if_neg (by rw [h2]; simp), if_neg h8])
        have h8' : decide ((8 : Int) < (x.flds.length : Int)) = false := decide_eq_false (by omega)
        go_wp2
        go_ret
        exact ⟨ret_int HB.out, by ((repeat (first | (with_reducible exact Below.refl _ _) | (with_reducible assumption) | (with_reducible refine Below.alloc ?_ ?_ _) | (with_reducible refine Below.setCell ?_ ?_ _) | (with_reducible refine Below.drew ?_) | (with_reducible refine below_setRow ?_ ?_ _) | (refine Below.trans ?_ (Below.mono (by assumption) ?_)))); all_goals (first | omega | (simp; done) | (simp; omega)))⟩
    · have HB := Lib.hid (show (3 : Int) = R by rw [← HR.out, msgC, if_neg (by rw [h1]; simp), if_pos h2])
      go_wp2
      go_ret
      exact ⟨ret_int HB.out, by ((repeat (first | (with_reducible exact Below.refl _ _) | (with_reducible assumption) | (with_reducible refine Below.alloc ?_ ?_ _) | (with_reducible refine Below.setCell ?_ ?_ _) | (with_reducible refine Below.drew ?_) | (with_reducible refine below_setRow ?_ ?_ _) | (refine Below.trans ?_ (Below.mono (by assumption) ?_)))); all_goals (first | omega | (simp; done) | (simp; omega)))⟩
def ShsL (w : World) (a : Option Addr) (xs : List Shp) : Prop :=
  ∀ (k : Nat) (x : Shp), xs[k]? = some x → ∃ b off a' cap', a = some ⟨b, off, none⟩ ∧ b < w.heap.size ∧ w.cell? ⟨b, off + k * 2, none⟩ = some (.int .i64 x.id) ∧ w.cell? ⟨b, off + k * 2 + 1, none⟩ = some (.slice a' x.flds.length cap') ∧ Flds w a' x.flds ∧ x.flds.length ≤ cap'
theorem ShsL.shs {w : World} {a : Option Addr} {xs : List Shp} (h : ShsL w a xs) : Shs w a xs := fun k x hx => by
  obtain ⟨b, off, a', cap', h1, h2, h3, h4, h5, _⟩ := h k x hx
  exact ⟨b, off, a', cap', h1, h2, h3, h4, h5⟩
theorem ShsL.keep {w w' : World} {a : Option Addr} {xs : List Shp} (h : ShsL w a xs) (hb : Below w.heap.size w w') : ShsL w' a xs := fun k x hx => by
  obtain ⟨b, off, a', cap', h1, h2, h3, h4, h5, h6⟩ := h k x hx
  exact ⟨b, off, a', cap', h1, Nat.lt_of_lt_of_le h2 hb.size, (hb.cell (p := ⟨b, _, none⟩) h2).trans h3, (hb.cell (p := ⟨b, _, none⟩) h2).trans h4, Sl.keep h5 hb, h6⟩
theorem own_lecapR {w : World} {base n cap size : Nat} {t : TypeId} {a : Option Addr} {L : List Value} (h : w.ownsRow base t size (.slice a n cap) n L) : n ≤ cap := by
  rcases h.2 with ⟨e, h0⟩ | ⟨g, c, cur, e, _, _, hc, _⟩
  · simp only [Value.slice.injEq] at e; omega
  · simp only [Value.slice.injEq] at e; omega
theorem OwnShs.shsL {w : World} {base : Nat} {T TF : TypeId} {a : Option Addr} {n cap : Nat} {rs : List ShR} {xs : List Shp} (h : OwnShs w base T TF (.slice a n cap) n rs xs) : ShsL w a xs := by
  intro k x hx
  have hk : k < xs.length := by
    rcases Nat.lt_or_ge k xs.length with h | h
    · exact h
    · rw [List.getElem?_eq_none h] at hx; simp at hx
  have hkr : k < rs.length := by rw [h.len, ← h.lenx]; exact hk
  obtain ⟨a1, cap1, e, _, _, hs⟩ := Sl.of_owns shR_len h.outer h.len
  simp only [Value.slice.injEq] at e
  obtain ⟨rfl, _, rfl⟩ := e
  obtain ⟨b, off, ha, hlt, hc⟩ := hs k rs[k] (List.getElem?_eq_getElem hkr)
  obtain ⟨h1, h2, h3⟩ := h.each k rs[k] x (List.getElem?_eq_getElem hkr) hx
  have c0 := hc 0 _ rfl
  have c1 := hc 1 _ rfl
  rw [h1] at c0
  rw [h2] at c1 h3
  exact ⟨b, off, rs[k].a, rs[k].cap, ha, hlt, c0, c1, flds_of_own h3 rfl, own_lecapR h3⟩
theorem flds_take {w : World} {a : Option Addr} {fs : List Fld} (h : Flds w a fs) (k : Nat) : Flds w a (fs.take k) := fun j e he => h j e (by
  rw [List.getElem?_take] at he
  split at he
  · exact he
  · simp at he)
def refBad (xs : List Shp) (f : Fld) : Bool := if f.kind = 8 then !hasId xs f.msg else !(f.msg == 0)
def fldC (xs : List Shp) (fs : List Fld) (k : Nat) (f : Fld) : Int :=
  if numOk f.number = false then 5 else if hasNum (fs.take k) f.number = true then 6 else if inB f.kind 1 8 = false then 7 else if packOk f = false then 8
  else if refBad xs f = true then 9 else 0
set_option maxRecDepth 100000 in
set_option maxHeartbeats 4000000 in
theorem specFieldCode_any (a : Option Addr) (cap n i k : Nat) (xs : List Shp) (x : Shp) (f : Fld) (w : World) (h : ShsL w a xs) (hl : xs.length = n) (hn : n ≤ 1048576) (hx : xs[i]? = some x) (hi : i < n) (hfl : x.flds.length ≤ 1048576) (hf : x.flds[k]? = some f) (hk : k < x.flds.length) :
    Calls Try.prog 41 #[.agg #[.slice a n cap], .int .i64 i, .int .i64 k] w fun r w' => r = .returned (.int .i64 (fldC xs x.flds k f)) ∧ Below w.heap.size w w' := by
  have HL := Lib.hid hl; clear hl
  obtain ⟨R, hR⟩ : ∃ R, fldC xs x.flds k f = R := ⟨_, rfl⟩
  rw [hR]
  have HR := Lib.hid hR; clear hR
  obtain ⟨b, off, a', cap', rfl, hbl, c0, c1, hfs, hcp⟩ := h i x hx
  obtain ⟨b2, off2, rfl, hbl2, d0, d1, d2, d3, d4⟩ := Flds.at hfs hf
  have HX := Lib.hid hx; clear hx
  have HF := Lib.hid hf; clear hf
  have HFS := Lib.hid hfs; clear hfs
  have hb1 : inB (i : Int) 0 ((n : Int) - 1) = true := by simp only [inB, decide_eq_true_eq]; omega
  have hb2' : inB (k : Int) 0 ((x.flds.length : Int) - 1) = true := by simp only [inB, decide_eq_true_eq]; omega
  have hii : (i : Int) < (n : Int) := by omega
  have hki : (k : Int) < (x.flds.length : Int) := by omega
  have hkc : (k : Int) ≤ (cap' : Int) := by omega
  have hk0 : (0 : Int) ≤ (k : Int) := by omega
  have HH := Lib.hid h.shs; clear h
  go_enter Try.func41, Try.ntmps41
  cases h1 : numOk f.number
  · have HB := Lib.hid (show (5 : Int) = R by rw [← HR.out, fldC, if_pos h1])
    go_wp2_with (first | (go_at_call 43; refine (l1In_any _ _ _ _).mono ?_; rintro r w1 ⟨rfl, rfl⟩) | (go_at_call 73; refine (specNumberOk_any _ _).mono ?_; rintro r w1 ⟨rfl, rfl⟩))
    go_ret
    exact ⟨ret_int HB.out, by ((repeat (first | (with_reducible exact Below.refl _ _) | (with_reducible assumption) | (with_reducible refine Below.alloc ?_ ?_ _) | (with_reducible refine Below.setCell ?_ ?_ _) | (with_reducible refine Below.drew ?_) | (with_reducible refine below_setRow ?_ ?_ _) | (refine Below.trans ?_ (Below.mono (by assumption) ?_)))); all_goals (first | omega | (simp; done) | (simp; omega)))⟩
  · go_wp2_with (first | (go_at_call 43; refine (l1In_any _ _ _ _).mono ?_; rintro r w1 ⟨rfl, rfl⟩) | (go_at_call 73; refine (specNumberOk_any _ _).mono ?_; rintro r w1 ⟨rfl, rfl⟩))
    have HF2 : ∀ W x0 : World, Below w.heap.size w W → Flds (World.ext W x0) (some ⟨b2, off2, none⟩) (x.flds.take k) := fun W x0 hW => Sl.keep (Sl.keep (flds_take HFS.out k) hW) (World.ext_below _ _)
    have HF3 := Lib.hid HF2; clear HF2
    have HKl := Lib.hid (show (x.flds.take k).length = k by rw [List.length_take]; omega)
    (refine wp_region_ext (by kernel_rfl) (by kernel_rfl) ?_; (repeat (go_big_quiet_step (first | (go_at_call 74; refine Calls.ext_of (l6HasNumber_any (some ⟨b2, off2, none⟩) cap' k (x.flds.take k) f.number _ (HF3.out _ _ (by ((repeat (first | (with_reducible exact Below.refl _ _) | (with_reducible assumption) | (with_reducible refine Below.alloc ?_ ?_ _) | (with_reducible refine Below.setCell ?_ ?_ _) | (with_reducible refine Below.drew ?_) | (with_reducible refine below_setRow ?_ ?_ _) | (refine Below.trans ?_ (Below.mono (by assumption) ?_)))); all_goals (first | omega | (simp; done) | (simp; omega))))) HKl.out (by omega)))))); refine wpQuiet_nil ?_; intro w2 hb2; obtain ⟨hc2, hf2⟩ := bcell hb2; have hz2 := hb2.size; (try simp only [World.size_alloc, World.size_setCell, World.size_drew] at hz2); have hy2_0 : w.heap.size < w2.heap.size := by omega)
    have hA_ := (hb2.block w.heap.size (by simp; omega)).trans (hset_alloc (hset_new (o := .cells #[.slice (some ⟨b, off, none⟩) n cap] 26) rfl))
    have hG_ := (hb2.block (w.heap.size + 1) (by simp)).trans (hset_new (o := .cells #[.int .i64 f.number, .int .i64 f.kind, .bool f.rep, .bool f.packed, .int .i64 f.msg] 45) (by simp))
    have kA := box_cells hA_; have kG := box_cells hG_; have hlG := box_lt hG_; have hlA := box_lt hA_; have HGx := Lib.hid hG_
    have hbw : Below w.heap.size w w2 := by ((repeat (first | (with_reducible exact Below.refl _ _) | (with_reducible assumption) | (with_reducible refine Below.alloc ?_ ?_ _) | (with_reducible refine Below.setCell ?_ ?_ _) | (with_reducible refine Below.drew ?_) | (with_reducible refine below_setRow ?_ ?_ _) | (refine Below.trans ?_ (Below.mono (by assumption) ?_)))); all_goals (first | omega | (simp; done) | (simp; omega)))
    clear hb2 hA_ hG_ hc2 hf2
    cases h2 : hasNum (x.flds.take k) f.number
    · cases h3 : inB f.kind 1 8
      · have HB := Lib.hid (show (7 : Int) = R by rw [← HR.out, fldC, if_neg (by rw [h1]; simp), if_neg (by rw [h2]; simp), if_pos h3])
        go_wp2_with (first | (go_at_call 75; refine (l6Kind_any _ _).mono ?_; rintro r w1 ⟨rfl, rfl⟩))
        go_ret
        exact ⟨ret_int HB.out, by ((repeat (first | (with_reducible exact Below.refl _ _) | (with_reducible assumption) | (with_reducible refine Below.alloc ?_ ?_ _) | (with_reducible refine Below.setCell ?_ ?_ _) | (with_reducible refine Below.drew ?_) | (with_reducible refine below_setRow ?_ ?_ _) | (refine Below.trans ?_ (Below.mono (by assumption) ?_)))); all_goals (first | omega | (simp; done) | (simp; omega)))⟩
      · cases h4 : packOk f
        · have HB := Lib.hid (show (8 : Int) = R by rw [← HR.out, fldC, if_neg (by rw [h1]; simp), if_neg (by rw [h2]; simp), if_neg (by rw [h3]; simp), if_pos h4])
          simp only [packOk, Bool.not_eq_false', Bool.and_eq_true, Bool.or_eq_true, Bool.not_eq_true'] at h4
          obtain ⟨h5, h6⟩ := h4
          rw [h5] at kG d3
          cases h7 : f.rep
          · rw [h7] at kG d2
            go_wp2_with (first | (go_at_call 75; refine (l6Kind_any _ _).mono ?_; rintro r w1 ⟨rfl, rfl⟩))
            go_ret
            exact ⟨ret_int HB.out, by ((repeat (first | (with_reducible exact Below.refl _ _) | (with_reducible assumption) | (with_reducible refine Below.alloc ?_ ?_ _) | (with_reducible refine Below.setCell ?_ ?_ _) | (with_reducible refine Below.drew ?_) | (with_reducible refine below_setRow ?_ ?_ _) | (refine Below.trans ?_ (Below.mono (by assumption) ?_)))); all_goals (first | omega | (simp; done) | (simp; omega)))⟩
          · have h8 : inB f.kind 1 5 = false := by rcases h6 with h6 | h6; (rw [h7] at h6; simp at h6); exact h6
            rw [h7] at kG d2
            go_wp2_with (first | (go_at_call 75; refine (l6Kind_any _ _).mono ?_; rintro r w1 ⟨rfl, rfl⟩) | (go_at_call 76; refine (specNumeric_any _ _).mono ?_; rintro r w1 ⟨rfl, rfl⟩))
            go_ret
            exact ⟨ret_int HB.out, by ((repeat (first | (with_reducible exact Below.refl _ _) | (with_reducible assumption) | (with_reducible refine Below.alloc ?_ ?_ _) | (with_reducible refine Below.setCell ?_ ?_ _) | (with_reducible refine Below.drew ?_) | (with_reducible refine below_setRow ?_ ?_ _) | (refine Below.trans ?_ (Below.mono (by assumption) ?_)))); all_goals (first | omega | (simp; done) | (simp; omega)))⟩
        · have HP : f.packed = false ∨ f.packed = true ∧ f.rep = true ∧ inB f.kind 1 5 = true := by
            simp only [packOk] at h4
            cases h5 : f.packed <;> cases h6 : f.rep <;> cases h7 : inB f.kind 1 5 <;> simp [h5, h6, h7] at h4 ⊢
          have HE : ∀ v : Int, (if refBad xs f = true then (9 : Int) else 0) = v → v = R := fun v hv => by rw [← HR.out, fldC, if_neg (by rw [h1]; simp), if_neg (by rw [h2]; simp), if_neg (by rw [h3]; simp), if_neg (by rw [h4]; simp), hv]
          have HE2 := Lib.hid HE; clear HE h4
          by_cases h8 : f.kind = 8
          · have g8 : (f.kind == 8) = true := by simp; omega
            have g8n : (f.kind != 8) = false := by simp; omega
            have HRB := Lib.hid (show refBad xs f = !hasId xs f.msg by rw [refBad, if_pos h8])
            have HTK := Lib.hid (show xs.take n = xs from List.take_of_length_le (by rw [HL.out]; omega))
            clear h8
            rcases HP with h5 | ⟨h5, h6, h7⟩
            · rw [h5] at kG d3
              go_wp2_with (first | (go_at_call 75; refine (l6Kind_any _ _).mono ?_; rintro r w1 ⟨rfl, rfl⟩))
              refine (l6HasId_any (some ⟨b, off, none⟩) cap n n xs f.msg _ (HH.out.keep hbw) HL.out hn (Nat.le_refl _)).mono ?_
              rintro r w3 ⟨rfl, hb3⟩
              rw [HTK.out]
              have hG3 := (hb3.block _ hlG).trans HGx.out
              have kG3 := box_cells hG3; clear hG3 kG kA
              cases h9 : hasId xs f.msg
              · have HB := Lib.hid (HE2.out 9 (by rw [HRB.out, h9]; rfl))
                go_wp2
                go_ret
                exact ⟨ret_int HB.out, by ((repeat (first | (with_reducible exact Below.refl _ _) | (with_reducible assumption) | (with_reducible refine Below.alloc ?_ ?_ _) | (with_reducible refine Below.setCell ?_ ?_ _) | (with_reducible refine Below.drew ?_) | (with_reducible refine below_setRow ?_ ?_ _) | (refine Below.trans ?_ (Below.mono (by assumption) ?_)))); all_goals (first | omega | (simp; done) | (simp; omega)))⟩
              · have HB := Lib.hid (HE2.out 0 (by rw [HRB.out, h9]; rfl))
                go_wp2
                go_ret
                exact ⟨ret_int HB.out, by ((repeat (first | (with_reducible exact Below.refl _ _) | (with_reducible assumption) | (with_reducible refine Below.alloc ?_ ?_ _) | (with_reducible refine Below.setCell ?_ ?_ _) | (with_reducible refine Below.drew ?_) | (with_reducible refine below_setRow ?_ ?_ _) | (refine Below.trans ?_ (Below.mono (by assumption) ?_)))); all_goals (first | omega | (simp; done) | (simp; omega)))⟩
            · rw [h5] at kG d3
              rw [h6] at kG d2
              go_wp2_with (first | (go_at_call 75; refine (l6Kind_any _ _).mono ?_; rintro r w1 ⟨rfl, rfl⟩) | (go_at_call 76; refine (specNumeric_any _ _).mono ?_; rintro r w1 ⟨rfl, rfl⟩))
              refine (l6HasId_any (some ⟨b, off, none⟩) cap n n xs f.msg _ (HH.out.keep hbw) HL.out hn (Nat.le_refl _)).mono ?_
              rintro r w3 ⟨rfl, hb3⟩
              rw [HTK.out]
              have hG3 := (hb3.block _ hlG).trans HGx.out
              have kG3 := box_cells hG3; clear hG3 kG kA
              cases h9 : hasId xs f.msg
              · have HB := Lib.hid (HE2.out 9 (by rw [HRB.out, h9]; rfl))
                go_wp2
                go_ret
                exact ⟨ret_int HB.out, by ((repeat (first | (with_reducible exact Below.refl _ _) | (with_reducible assumption) | (with_reducible refine Below.alloc ?_ ?_ _) | (with_reducible refine Below.setCell ?_ ?_ _) | (with_reducible refine Below.drew ?_) | (with_reducible refine below_setRow ?_ ?_ _) | (refine Below.trans ?_ (Below.mono (by assumption) ?_)))); all_goals (first | omega | (simp; done) | (simp; omega)))⟩
              · have HB := Lib.hid (HE2.out 0 (by rw [HRB.out, h9]; rfl))
                go_wp2
                go_ret
                exact ⟨ret_int HB.out, by ((repeat (first | (with_reducible exact Below.refl _ _) | (with_reducible assumption) | (with_reducible refine Below.alloc ?_ ?_ _) | (with_reducible refine Below.setCell ?_ ?_ _) | (with_reducible refine Below.drew ?_) | (with_reducible refine below_setRow ?_ ?_ _) | (refine Below.trans ?_ (Below.mono (by assumption) ?_)))); all_goals (first | omega | (simp; done) | (simp; omega)))⟩
          · have g8 : (f.kind == 8) = false := by simp; omega
            have g8n : (f.kind != 8) = true := by simp; omega
            have HRB := Lib.hid (show refBad xs f = !(f.msg == 0) by rw [refBad, if_neg h8])
            clear h8
            rcases HP with h5 | ⟨h5, h6, h7⟩
            · rw [h5] at kG d3
              by_cases h9 : f.msg = 0
              · have g9 : (f.msg == 0) = true := by simp; omega
                have g9n : (f.msg != 0) = false := by simp; omega
                have HB := Lib.hid (HE2.out 0 (by rw [HRB.out, g9]; rfl))
                clear h9
                go_wp2_with (first | (go_at_call 75; refine (l6Kind_any _ _).mono ?_; rintro r w1 ⟨rfl, rfl⟩))
                go_ret
                exact ⟨ret_int HB.out, by ((repeat (first | (with_reducible exact Below.refl _ _) | (with_reducible assumption) | (with_reducible refine Below.alloc ?_ ?_ _) | (with_reducible refine Below.setCell ?_ ?_ _) | (with_reducible refine Below.drew ?_) | (with_reducible refine below_setRow ?_ ?_ _) | (refine Below.trans ?_ (Below.mono (by assumption) ?_)))); all_goals (first | omega | (simp; done) | (simp; omega)))⟩
              · have g9 : (f.msg == 0) = false := by simp; omega
                have g9n : (f.msg != 0) = true := by simp; omega
                have HB := Lib.hid (HE2.out 9 (by rw [HRB.out, g9]; rfl))
                clear h9
                go_wp2_with (first | (go_at_call 75; refine (l6Kind_any _ _).mono ?_; rintro r w1 ⟨rfl, rfl⟩))
                go_ret
                exact ⟨ret_int HB.out, by ((repeat (first | (with_reducible exact Below.refl _ _) | (with_reducible assumption) | (with_reducible refine Below.alloc ?_ ?_ _) | (with_reducible refine Below.setCell ?_ ?_ _) | (with_reducible refine Below.drew ?_) | (with_reducible refine below_setRow ?_ ?_ _) | (refine Below.trans ?_ (Below.mono (by assumption) ?_)))); all_goals (first | omega | (simp; done) | (simp; omega)))⟩
            · rw [h5] at kG d3
              rw [h6] at kG d2
              by_cases h9 : f.msg = 0
              · have g9 : (f.msg == 0) = true := by simp; omega
                have g9n : (f.msg != 0) = false := by simp; omega
                have HB := Lib.hid (HE2.out 0 (by rw [HRB.out, g9]; rfl))
                clear h9
                go_wp2_with (first | (go_at_call 75; refine (l6Kind_any _ _).mono ?_; rintro r w1 ⟨rfl, rfl⟩) | (go_at_call 76; refine (specNumeric_any _ _).mono ?_; rintro r w1 ⟨rfl, rfl⟩))
                go_ret
                exact ⟨ret_int HB.out, by ((repeat (first | (with_reducible exact Below.refl _ _) | (with_reducible assumption) | (with_reducible refine Below.alloc ?_ ?_ _) | (with_reducible refine Below.setCell ?_ ?_ _) | (with_reducible refine Below.drew ?_) | (with_reducible refine below_setRow ?_ ?_ _) | (refine Below.trans ?_ (Below.mono (by assumption) ?_)))); all_goals (first | omega | (simp; done) | (simp; omega)))⟩
              · have g9 : (f.msg == 0) = false := by simp; omega
                have g9n : (f.msg != 0) = true := by simp; omega
                have HB := Lib.hid (HE2.out 9 (by rw [HRB.out, g9]; rfl))
                clear h9
                go_wp2_with (first | (go_at_call 75; refine (l6Kind_any _ _).mono ?_; rintro r w1 ⟨rfl, rfl⟩) | (go_at_call 76; refine (specNumeric_any _ _).mono ?_; rintro r w1 ⟨rfl, rfl⟩))
                go_ret
                exact ⟨ret_int HB.out, by ((repeat (first | (with_reducible exact Below.refl _ _) | (with_reducible assumption) | (with_reducible refine Below.alloc ?_ ?_ _) | (with_reducible refine Below.setCell ?_ ?_ _) | (with_reducible refine Below.drew ?_) | (with_reducible refine below_setRow ?_ ?_ _) | (refine Below.trans ?_ (Below.mono (by assumption) ?_)))); all_goals (first | omega | (simp; done) | (simp; omega)))⟩
    · have HB := Lib.hid (show (6 : Int) = R by rw [← HR.out, fldC, if_neg (by rw [h1]; simp), if_pos h2])
      go_wp2
      go_ret
      exact ⟨ret_int HB.out, by ((repeat (first | (with_reducible exact Below.refl _ _) | (with_reducible assumption) | (with_reducible refine Below.alloc ?_ ?_ _) | (with_reducible refine Below.setCell ?_ ?_ _) | (with_reducible refine Below.drew ?_) | (with_reducible refine below_setRow ?_ ?_ _) | (refine Below.trans ?_ (Below.mono (by assumption) ?_)))); all_goals (first | omega | (simp; done) | (simp; omega)))⟩
def firstF (xs : List Shp) (i : Nat) (fs : List Fld) : Nat → List Fld → Option (Int × Int × Int)
  | _, [] => none
  | k, f :: gs => if fldC xs fs k f = 0 then firstF xs i fs (k + 1) gs else some (fldC xs fs k f, i, k)
def firstM (xs : List Shp) : Nat → List Shp → Int × Int × Int
  | _, [] => (0, 0, 0)
  | i, x :: ys => if msgC xs i x = 0 then (firstF xs i x.flds 0 x.flds).getD (firstM xs (i + 1) ys) else (msgC xs i x, i, -1)
def firstV (xs : List Shp) : Int × Int × Int := if 6 < xs.length then (1, 6, -1) else firstM xs 0 xs
def vioV (v : Int × Int × Int) : Value := .agg #[.int .i64 v.1, .int .i64 v.2.1, .int .i64 v.2.2]
section
variable {xs : List Shp} {i k : Nat} {x : Shp} {f : Fld} {R : Int × Int × Int} {O : Option (Int × Int × Int)}
theorem fM_bad (h : firstM xs i (xs.drop i) = R) (hx : xs[i]? = some x) (hb : ¬ msgC xs i x = 0) : (msgC xs i x, (i : Int), (-1 : Int)) = R := by rw [drop_cons hx, firstM, if_neg hb] at h; exact h
theorem fM_ok (h : firstM xs i (xs.drop i) = R) (hx : xs[i]? = some x) (hb : msgC xs i x = 0) : (firstF xs i x.flds 0 x.flds).getD (firstM xs (i + 1) (xs.drop (i + 1))) = R := by rw [drop_cons hx, firstM, if_pos hb] at h; exact h
theorem fM_end (h : firstM xs i (xs.drop i) = R) (hx : xs.length ≤ i) : ((0 : Int), (0 : Int), (0 : Int)) = R := by rw [List.drop_of_length_le hx, firstM] at h; exact h
theorem fF_bad {fs : List Fld} (h : firstF xs i fs k (fs.drop k) = O) (hf : fs[k]? = some f) (hb : ¬ fldC xs fs k f = 0) : some (fldC xs fs k f, (i : Int), (k : Int)) = O := by rw [drop_cons hf, firstF, if_neg hb] at h; exact h
theorem fF_ok {fs : List Fld} (h : firstF xs i fs k (fs.drop k) = O) (hf : fs[k]? = some f) (hb : fldC xs fs k f = 0) : firstF xs i fs (k + 1) (fs.drop (k + 1)) = O := by rw [drop_cons hf, firstF, if_pos hb] at h; exact h
theorem fF_end {fs : List Fld} (h : firstF xs i fs k (fs.drop k) = O) (hf : fs.length ≤ k) : none = O := by rw [List.drop_of_length_le hf, firstF] at h; exact h
end
end Go.Proofs.Ytbpilecgnfnndaa
namespace Go.Proofs.Ytbpilecgnfnndaa
set_option linter.unusedSimpArgs false
set_option linter.unusedVariables false
open Go.ChangeShapes Go.WideShapes Go.ChangeAt Go.RowKit Go.BigFrame
theorem vio_res {F : Func} (hF : F.results = #[.cell 2 32]) {tm : Array Value} {B : Nat} {W : World} {x y z : Int} (t1 : tm.getD 2 undef = .pointer (some ⟨B, 0, none⟩)) (h : W.heap[B]? = some (.cells #[.int .i64 x, .int .i64 y, .int .i64 z] 32 (0, 0))) :
    (results F tm).run Try.prog W = .ok (.agg #[.int .i64 x, .int .i64 y, .int .i64 z]) W :=
  results_cell hF t1 (run_loadVar_mid W B 0 32 [.int .i64 x, .int .i64 y, .int .i64 z] _ (range_of_box h) Try.underlying32 rfl (by kernel_rfl))
set_option maxRecDepth 100000 in
set_option maxHeartbeats 4000000 in
theorem specFirst_any (a : Option Addr) (cap n : Nat) (xs : List Shp) (w : World) (h : ShsL w a xs) (hl : xs.length = n) (hn : n ≤ 1048576) (hm : fldSum xs ≤ 1048576) :
    Calls Try.prog 9 #[.agg #[.slice a n cap]] w fun r w' => r = .returned (vioV (firstV xs)) ∧ Below w.heap.size w w' := by
  have HL := Lib.hid hl; clear hl
  have HH := Lib.hid h; clear h
  obtain ⟨R, hR⟩ : ∃ R, firstV xs = R := ⟨_, rfl⟩
  rw [hR]
  go_enter Try.func9, Try.ntmps9
  by_cases h6 : 6 < n
  · have hR1 : R = (1, 6, -1) := by rw [← hR, firstV, if_pos (by rw [HL.out]; exact h6)]
    subst hR1
    have h6' : (6 : Int) < (n : Int) := by omega
    go_wp2
    refine bodyPost_ret (vio_res (B := w.heap.size + 1) (x := 1) (y := 6) (z := -1) Try.results9 rfl ?_) rfl ⟨rfl, by ((repeat (first | (with_reducible exact Below.refl _ _) | (with_reducible assumption) | (with_reducible refine Below.alloc ?_ ?_ _) | (with_reducible refine Below.setCell ?_ ?_ _) | (with_reducible refine Below.drew ?_) | (with_reducible refine below_setRow ?_ ?_ _) | (refine Below.trans ?_ (Below.mono (by assumption) ?_)))); all_goals (first | omega | (simp; done) | (simp; omega)))⟩
    exact hset_new (by simp)
  · have HR := Lib.hid (show firstM xs 0 (xs.drop 0) = R by rw [← hR, firstV, if_neg (by rw [HL.out]; exact h6)]; rfl)
    have h6' : decide ((6 : Int) < (n : Int)) = false := decide_eq_false (by omega)
    clear hR
    go_wp2
    go_loopw [3] (fun i wr => ∃ k : Nat, k ≤ n ∧ i = .int .i64 k ∧ Hid (firstM xs k (xs.drop k) = R) ∧ wr.heap[w.heap.size]? = some (.cells #[.slice a n cap] 26 (0, 0)) ∧ wr.heap[w.heap.size + 1]? = some (.cells #[.int .i64 0, .int .i64 0, .int .i64 0] 32 (0, 0)) ∧ Below w.heap.size w wr) (fun i _ => n - (intOf i).toNat)
    case atStart => exact ⟨0, Nat.zero_le _, rfl, HR, hset_alloc (hset_new rfl), hset_new (by simp), by ((repeat (first | (with_reducible exact Below.refl _ _) | (with_reducible assumption) | (with_reducible refine Below.alloc ?_ ?_ _) | (with_reducible refine Below.setCell ?_ ?_ _) | (with_reducible refine Below.drew ?_) | (with_reducible refine below_setRow ?_ ?_ _) | (refine Below.trans ?_ (Below.mono (by assumption) ?_)))); all_goals (first | omega | (simp; done) | (simp; omega)))⟩
    case round =>
      obtain ⟨k, hk, rfl, HK, hA, hV, hb⟩ := hrel
      have kA := box_cells hA 0; have kV := box_cells hV; have fV := box_frozen hV; have hlA := box_lt hA; have hlV := box_lt hV
      simp only [List.getElem?_toArray, List.getElem?_cons_zero] at kA
      have HA := Lib.hid hA; have HV := Lib.hid hV; clear hA hV
      by_cases hlt : k < n
      · obtain ⟨x, hx, _⟩ := at_lt (xs := xs) (k := k) (by rw [HL.out]; exact hlt)
        have hfl : x.flds.length ≤ 1048576 := by have := fldSum_ge hx; omega
        have hsl := HH.out.keep hb
        obtain ⟨b, off, a', cap', rfl, hbl, c0, c1, hfs, hcp⟩ := hsl k x hx
        have HX := Lib.hid hx; clear hx
        have HS := Lib.hid hsl; clear hsl hfs
        go_wp2_with fail
        refine (specMsgCode_any (some ⟨b, off, none⟩) cap n k xs x wr HS.out.shs HL.out hn HX.out hlt hfl).mono ?_
        rintro r w1 ⟨rfl, hb1⟩
        have hA1 := (hb1.block _ hlA).trans HA.out
        have hV1 := (hb1.block _ hlV).trans HV.out
        have hbw1 : Below w.heap.size w w1 := hb.trans (hb1.mono hb.size)
        have c1_ := (hb1.cell (p := ⟨b, off + k * 2 + 1, none⟩) hbl).trans c1
        have hbl1 := Nat.lt_of_lt_of_le hbl hb1.size
        have HS1 := Lib.hid (HS.out.keep hb1)
        clear kA kV fV hlA hlV c0 c1 hb hb1 HS HA HV hbl
        have c1 := c1_; clear c1_
        have kA := box_cells hA1 0; have kV := box_cells hV1; have fV := box_frozen hV1; have hlA := box_lt hA1; have hlV := box_lt hV1
        simp only [List.getElem?_toArray, List.getElem?_cons_zero] at kA
        have HA := Lib.hid hA1; have HV := Lib.hid hV1; clear hA1 hV1
        by_cases hz : msgC xs k x = 0
        · obtain ⟨O, hO⟩ : ∃ O, firstF xs k x.flds 0 x.flds = O := ⟨_, rfl⟩
          have HM := fM_ok HK.out HX.out hz
          rw [hO] at HM
          have HMx := Lib.hid HM; clear HM
          have HO := Lib.hid (show firstF xs k x.flds 0 (x.flds.drop 0) = O from hO); clear hO
          have hz' : (msgC xs k x != 0) = false := by simp [hz]
          rw [hz]
          clear hz hz'
          go_wp2
          obtain ⟨wo, hwo⟩ : ∃ wo : World, wo = w1 := ⟨_, rfl⟩
          rw [← hwo] at HA HV hbw1 HS1 c1 hbl1 kA kV fV hlA hlV ⊢
          clear hwo
          go_loopw [5] (fun j wi => ∃ q : Nat, q ≤ x.flds.length ∧ j = .int .i64 q ∧ Hid (firstF xs k x.flds q (x.flds.drop q) = O) ∧ Below wo.heap.size wo wi) (fun j _ => x.flds.length - (intOf j).toNat)
          case atStart => exact ⟨0, Nat.zero_le _, rfl, HO, Below.refl _ _⟩
          case round =>
            obtain ⟨q, hq, rfl, HQ, hbi⟩ := hrel
            obtain ⟨wi, hwi⟩ : ∃ wi : World, wi = wr := ⟨_, rfl⟩
            rw [← hwi] at hbi ⊢
            clear hwi
            have hAi := (hbi.block _ hlA).trans HA.out
            have hVi := (hbi.block _ hlV).trans HV.out
            have hbwi : Below w.heap.size w wi := hbw1.trans (hbi.mono hbw1.size)
            have c1i := (hbi.cell (p := ⟨b, off + k * 2 + 1, none⟩) hbl1).trans c1
            have HSi := Lib.hid (HS1.out.keep hbi)
            clear kA kV fV c1
            have kA := box_cells hAi 0; have kV := box_cells hVi; have fV := box_frozen hVi; have hlAi := box_lt hAi; have hlVi := box_lt hVi
            simp only [List.getElem?_toArray, List.getElem?_cons_zero] at kA
            have HVi := Lib.hid hVi; clear hVi hAi
            by_cases hlq : q < x.flds.length
            · obtain ⟨f, hf, _⟩ := at_lt (xs := x.flds) (k := q) hlq
              have HF := Lib.hid hf; clear hf
              go_wp2_with fail
              refine (specFieldCode_any (some ⟨b, off, none⟩) cap n k q xs x f wi HSi.out HL.out hn HX.out hlt hfl HF.out hlq).mono ?_
              rintro r w3 ⟨rfl, hb3⟩
              have hV3 := (hb3.block _ hlVi).trans HVi.out
              have hbw3 : Below w.heap.size w w3 := hbwi.trans (hb3.mono hbwi.size)
              have kV3 := box_cells hV3; have fV3 := box_frozen hV3; have hlV3 := box_lt hV3
              have HV3 := Lib.hid hV3; clear hV3 kV fV
              by_cases hz : fldC xs x.flds q f = 0
              · rw [hz]
                have HQ2 := Lib.hid (fF_ok HQ.out HF.out hz)
                clear hz
                go_wp2
                go_roundw
                case rel => exact ⟨q + 1, by omega, by go_num, HQ2, hbi.trans (hb3.mono hbi.size)⟩
                case measure => simp [intOf]; omega
              · have hO2 := fF_bad HQ.out HF.out hz
                have hR2 : (fldC xs x.flds q f, (k : Int), (q : Int)) = R := by have := HMx.out; rw [← hO2] at this; exact this
                have HR2 := Lib.hid hR2; clear hR2 hO2
                have gz : (fldC xs x.flds q f == 0) = false := by simp [hz]
                have gzn : (fldC xs x.flds q f != 0) = true := by simp [hz]
                clear hz
                go_wp2
                refine bodyPost_ret (vio_res (B := w.heap.size + 1) (x := fldC xs x.flds q f) (y := k) (z := q) Try.results9 rfl ?_) rfl ⟨?_, by ((repeat (first | (with_reducible exact Below.refl _ _) | (with_reducible assumption) | (with_reducible refine Below.alloc ?_ ?_ _) | (with_reducible refine Below.setCell ?_ ?_ _) | (with_reducible refine Below.drew ?_) | (with_reducible refine below_setRow ?_ ?_ _) | (refine Below.trans ?_ (Below.mono (by assumption) ?_)))); all_goals (first | omega | (simp; done) | (simp; omega)))⟩
                · apply hset_eq (hset_set (hset_set (hset_set HV3.out))); simp only [List.setIfInBounds_toArray, List.set_cons_zero, List.set_cons_succ]
                · rw [← HR2.out]; rfl
            · have hO2 := fF_end HQ.out (by omega)
              have HK2 := Lib.hid (show firstM xs (k + 1) (xs.drop (k + 1)) = R by have := HMx.out; rw [← hO2] at this; exact this)
              clear hO2
              go_wp2
              go_roundw
              case rel => exact ⟨k + 1, by omega, by go_num, HK2, (hbi.block _ hlA).trans HA.out, HVi.out, hbwi⟩
              case measure => simp [intOf]; omega
        · have hR2 := fM_bad HK.out HX.out hz
          have HR2 := Lib.hid hR2; clear hR2
          have gz : (msgC xs k x == 0) = false := by simp [hz]
          have gzn : (msgC xs k x != 0) = true := by simp [hz]
          clear hz
          go_wp2
          refine bodyPost_ret (vio_res (B := w.heap.size + 1) (x := msgC xs k x) (y := k) (z := -1) Try.results9 rfl ?_) rfl ⟨?_, by ((repeat (first | (with_reducible exact Below.refl _ _) | (with_reducible assumption) | (with_reducible refine Below.alloc ?_ ?_ _) | (with_reducible refine Below.setCell ?_ ?_ _) | (with_reducible refine Below.drew ?_) | (with_reducible refine below_setRow ?_ ?_ _) | (refine Below.trans ?_ (Below.mono (by assumption) ?_)))); all_goals (first | omega | (simp; done) | (simp; omega)))⟩
          · apply hset_eq (hset_set (hset_set (hset_set HV.out))); simp only [List.setIfInBounds_toArray, List.set_cons_zero, List.set_cons_succ]
          · rw [← HR2.out]; rfl
      · obtain rfl : k = n := by omega
        have hR2 := fM_end HK.out (by rw [HL.out]; omega)
        have HR2 := Lib.hid hR2; clear hR2
        go_wp2
        refine bodyPost_ret (vio_res (B := w.heap.size + 1) (x := 0) (y := 0) (z := 0) Try.results9 rfl ?_) rfl ⟨?_, by ((repeat (first | (with_reducible exact Below.refl _ _) | (with_reducible assumption) | (with_reducible refine Below.alloc ?_ ?_ _) | (with_reducible refine Below.setCell ?_ ?_ _) | (with_reducible refine Below.drew ?_) | (with_reducible refine below_setRow ?_ ?_ _) | (refine Below.trans ?_ (Below.mono (by assumption) ?_)))); all_goals (first | omega | (simp; done) | (simp; omega)))⟩
        · apply hset_eq (hset_set (hset_set (hset_set HV.out))); simp only [List.setIfInBounds_toArray, List.set_cons_zero, List.set_cons_succ]
        · rw [← HR2.out]; rfl
end Go.Proofs.Ytbpilecgnfnndaa
namespace Go.Proofs.Ytbpilecgnfnndaa
set_option linter.unusedSimpArgs false
set_option linter.unusedVariables false
def hasI (ids : List Int) (i : Int) : Bool := ids.any fun j => j == i
structure FG (ids : List Int) (f : Fld) : Prop where
  num : numOk f.number = true
  kind : inB f.kind 1 8 = true
  pack : packOk f = true
  ref : if f.kind = 8 then hasI ids f.msg = true else f.msg = 0
def Dist (fs : List Fld) : Prop := ∀ (k : Nat) (f : Fld), fs[k]? = some f → hasNum (fs.take k) f.number = false
theorem Dist.nil : Dist [] := fun k f h => by simp at h
theorem Dist.snoc {fs : List Fld} {f : Fld} (h : Dist fs) (hf : hasNum fs f.number = false) : Dist (fs ++ [f]) := by
  intro k g hg
  rcases Nat.lt_trichotomy k fs.length with hk | hk | hk
  · rw [List.getElem?_append_left hk] at hg
    rw [List.take_append_of_le_length (by omega)]
    exact h k g hg
  · subst hk
    rw [List.getElem?_append_right (Nat.le_refl _)] at hg
    simp at hg; subst hg
    rw [List.take_left]
    exact hf
  · rw [List.getElem?_eq_none (by simp; omega)] at hg; simp at hg
structure RawGood (ids : List Int) (i k : Nat) (xs : List Shp) : Prop where
  ids_ : xs.map Shp.id = ids
  len : ∀ (j : Nat) (x : Shp), xs[j]? = some x → x.flds.length ≤ if j < i then 5 else if j = i then k else 0
  good : ∀ x ∈ xs, Dist x.flds ∧ ∀ f ∈ x.flds, FG ids f
theorem RawGood.next {ids : List Int} {i k : Nat} {xs : List Shp} (h : RawGood ids i k xs) : RawGood ids i (k + 1) xs :=
  ⟨h.ids_, fun j x hx => by have := h.len j x hx; split at this <;> (try split at this) <;> (try split) <;> (try split) <;> omega, h.good⟩
theorem RawGood.turn {ids : List Int} {i k : Nat} {xs : List Shp} (h : RawGood ids i k xs) (hk : k ≤ 5) : RawGood ids (i + 1) 0 xs :=
  ⟨h.ids_, fun j x hx => by have := h.len j x hx; split at this <;> (try split at this) <;> (try split) <;> (try split) <;> omega, h.good⟩
theorem RawGood.put {ids : List Int} {i k : Nat} {xs : List Shp} {x : Shp} {f : Fld} (h : RawGood ids i k xs) (hx : xs[i]? = some x) (hf : FG ids f) (hn : hasNum x.flds f.number = false) :
    RawGood ids i (k + 1) (xs.set i ⟨x.id, x.flds ++ [f]⟩) := by
  obtain ⟨hi, hxe⟩ := List.getElem?_eq_some_iff.1 hx
  refine ⟨?_, ?_, ?_⟩
  · rw [List.map_set, ← h.ids_]
    apply List.ext_getElem? 
    intro j
    by_cases hj : i = j
    · subst hj
      rw [List.getElem?_set_self (by simpa using hi), List.getElem?_map, hx]; rfl
    · rw [List.getElem?_set_ne hj]
  · intro j y hy
    by_cases hj : i = j
    · subst hj
      rw [List.getElem?_set_self hi] at hy
      simp at hy; subst hy
      have := h.len i x hx
      simp at this ⊢
      omega
    · rw [List.getElem?_set_ne hj] at hy
      have := h.len j y hy
      split at this <;> (try split at this) <;> (try split) <;> (try split) <;> omega
  · intro y hy
    rcases List.mem_or_eq_of_mem_set hy with h1 | rfl
    · exact h.good y h1
    · obtain ⟨g1, g2⟩ := h.good x (List.mem_of_getElem? hx)
      refine ⟨g1.snoc hn, fun g hg => ?_⟩
      rcases List.mem_append.1 hg with h2 | h2
      · exact g2 g h2
      · simp at h2; subst h2; exact hf
theorem firstF_none {xs : List Shp} {i : Nat} {fs : List Fld} (h : ∀ (k : Nat) (f : Fld), fs[k]? = some f → fldC xs fs k f = 0) : ∀ (k : Nat), firstF xs i fs k (fs.drop k) = none := by
  intro k
  by_cases hk : k < fs.length
  · have hf : fs[k]? = some fs[k] := List.getElem?_eq_getElem hk
    rw [drop_cons hf, firstF, if_pos (h k _ hf)]
    exact firstF_none h (k + 1)
  · rw [List.drop_of_length_le (by omega), firstF]
termination_by k => fs.length - k
theorem firstM_zero {xs : List Shp} (h : ∀ (i : Nat) (x : Shp), xs[i]? = some x → msgC xs i x = 0 ∧ ∀ (k : Nat) (f : Fld), x.flds[k]? = some f → fldC xs x.flds k f = 0) : ∀ (i : Nat), firstM xs i (xs.drop i) = (0, 0, 0) := by
  intro i
  by_cases hi : i < xs.length
  · have hx : xs[i]? = some xs[i] := List.getElem?_eq_getElem hi
    obtain ⟨h1, h2⟩ := h i _ hx
    rw [drop_cons hx, firstM, if_pos h1]
    have := firstF_none (xs := xs) (i := i) h2 0
    rw [List.drop_zero] at this
    rw [this]
    exact firstM_zero h (i + 1)
  · rw [List.drop_of_length_le (by omega), firstM]
termination_by i => xs.length - i
end Go.Proofs.Ytbpilecgnfnndaa
namespace Go.Proofs.Ytbpilecgnfnndaa
set_option linter.unusedSimpArgs false
set_option linter.unusedVariables false
open Go.ChangeShapes Go.WideShapes Go.ChangeAt Go.RowKit Go.BigFrame
def rankS (xs : List Shp) (id : Int) : Nat := (xs.filter fun x => decide (x.id < id)).length
def putF : List Fld → Fld → List Fld
  | [], f => [f]
  | g :: gs, f => if g.number < f.number then g :: putF gs f else f :: g :: gs
theorem putF_len : ∀ (fs : List Fld) (f : Fld), (putF fs f).length = fs.length + 1
  | [], f => rfl
  | g :: gs, f => by unfold putF; split <;> simp [putF_len gs f]
theorem info_Fld5 : (Try.prog.info? 47).map (fun i => (i.zero, i.size, i.bytes)) = some (some (.agg #[.int .i64 0, .int .i64 0, .bool false, .bool false, .int .i64 0]), 5, 32) := by kernel_rfl
theorem range_five {w : World} {B : Nat} {v0 v1 v2 v3 v4 : Value} (h : Cells [(⟨B, 0, none⟩, v0), (⟨B, 1, none⟩, v1), (⟨B, 2, none⟩, v2), (⟨B, 3, none⟩, v3), (⟨B, 4, none⟩, v4)] w) : w.rangeAt B 0 [v0, v1, v2, v3, v4] := by
  simp only [cells_cons, cells_nil, and_true] at h
  obtain ⟨h0, h1, h2, h3, h4⟩ := h
  intro j u hj
  rw [Nat.zero_add]
  match j, hj with
  | 0, hj => simp at hj; subst hj; exact h0
  | 1, hj => simp at hj; subst hj; exact h1
  | 2, hj => simp at hj; subst hj; exact h2
  | 3, hj => simp at hj; subst hj; exact h3
  | 4, hj => simp at hj; subst hj; exact h4
  | j + 5, hj => simp at hj
end Go.Proofs.Ytbpilecgnfnndaa
namespace Go.Proofs.Ytbpilecgnfnndaa
set_option linter.unusedSimpArgs false
set_option linter.unusedVariables false
open Go.ChangeShapes Go.WideShapes Go.ChangeAt Go.RowKit Go.BigFrame
def cfld (xs : List Shp) (f : Fld) : Fld := ⟨f.number, f.kind, f.rep, f.packed, if f.kind = 8 then (rankS xs f.msg : Nat) else -1⟩
def cflds (xs : List Shp) : List Fld → List Fld → List Fld
  | l, [] => l
  | l, f :: fs => cflds xs (putF l (cfld xs f)) fs
theorem cflds_len (xs : List Shp) : ∀ (fs l : List Fld), (cflds xs l fs).length = l.length + fs.length
  | [], l => rfl
  | f :: fs, l => by rw [cflds, cflds_len xs fs, putF_len]; simp; omega
def cgo (xs : List Shp) : List Shp → List Shp → List Shp
  | ys, [] => ys
  | ys, x :: rest => cgo xs (ys.set (rankS xs x.id) ⟨x.id, cflds xs [] x.flds⟩) rest
def compS (xs : List Shp) : List Shp := cgo xs (List.replicate xs.length ⟨0, []⟩) xs
theorem cgo_len (xs : List Shp) : ∀ (rest ys : List Shp), (cgo xs ys rest).length = ys.length
  | [], ys => rfl
  | x :: rest, ys => by rw [cgo, cgo_len xs rest]; simp
theorem compS_len (xs : List Shp) : (compS xs).length = xs.length := by rw [compS, cgo_len]; simp
theorem filter_lt {α : Type} {p : α → Bool} : ∀ {xs : List α} {x : α}, x ∈ xs → p x = false → (xs.filter p).length < xs.length
  | y :: ys, x, h, hp => by
    rcases List.mem_cons.1 h with rfl | h'
    · rw [List.filter_cons_of_neg (by simp [hp])]
      exact Nat.lt_succ_of_le (List.length_filter_le _ _)
    · have := filter_lt h' hp
      by_cases hy : p y = true
      · rw [List.filter_cons_of_pos hy]; simp only [List.length_cons]; omega
      · rw [List.filter_cons_of_neg (by simpa using hy)]; simp only [List.length_cons]; omega
theorem rank_lt {xs : List Shp} {x : Shp} (h : x ∈ xs) : rankS xs x.id < xs.length := filter_lt h (by simp)
end Go.Proofs.Ytbpilecgnfnndaa
namespace Go.Proofs.Ytbpilecgnfnndaa
set_option linter.unusedSimpArgs false
set_option linter.unusedVariables false
open Go.ChangeShapes Go.WideShapes Go.ChangeAt Go.RowKit Go.BigFrame
theorem own_box {w : World} {base n size : Nat} {t : TypeId} {v : Value} {L : List Value} (h : w.ownsRow base t size v n L) {g : Nat} (hg : v.ownBlock = some g) : ∃ cur, w.heap[g]? = some (.cells cur t (0, 0)) := by
  rcases h.2 with ⟨rfl, _⟩ | ⟨g', cap, cur, rfl, _, hh, _⟩
  · simp [Value.ownBlock] at hg
  · simp [Value.ownBlock] at hg; subst hg; exact ⟨cur, hh⟩
theorem own_at {w : World} {base n cap size g : Nat} {t : TypeId} {L : List Value} (h : w.ownsRow base t size (.slice (some ⟨g, 0, none⟩) n cap) n L) {j : Nat} {u : Value} (hj : L[j]? = some u) : w.cell? ⟨g, j, none⟩ = some u := by
  have := h.cells (g := g) rfl j u hj
  by_cases h0 : j = 0
  · subst h0; simpa [Addr.add] using this
  · simpa [Addr.add, h0] using this
theorem shr_setF : ∀ (rs : List ShR) (k : Nat) (r s : ShR), rs[k]? = some r → s.id = r.id → (rs.flatMap ShR.cs).set (k * 2 + 1) (.slice s.a s.n s.cap) = (rs.set k s).flatMap ShR.cs
  | [], k, r, s, h, _ => by simp at h
  | x :: rs, 0, r, s, h, hid => by
    simp at h; subst h
    simp [ShR.cs, hid]
  | x :: rs, k + 1, r, s, h, hid => by
    have ih := shr_setF rs k r s (by simpa using h) hid
    simp only [List.flatMap_cons, List.set_cons_succ, ShR.cs] at ih ⊢
    rw [show (k + 1) * 2 + 1 = (k * 2 + 1) + 1 + 1 by omega]
    simpa using ih
theorem shr_setId : ∀ (rs : List ShR) (k : Nat) (r s : ShR), rs[k]? = some r → s.a = r.a → s.n = r.n → s.cap = r.cap → (rs.flatMap ShR.cs).set (k * 2) (.int .i64 s.id) = (rs.set k s).flatMap ShR.cs
  | [], k, r, s, h, _, _, _ => by simp at h
  | x :: rs, 0, r, s, h, h1, h2, h3 => by
    simp at h; subst h
    simp [ShR.cs, h1, h2, h3]
  | x :: rs, k + 1, r, s, h, h1, h2, h3 => by
    have ih := shr_setId rs k r s (by simpa using h) h1 h2 h3
    simp only [List.flatMap_cons, List.set_cons_succ, ShR.cs] at ih ⊢
    rw [show (k + 1) * 2 = (k * 2) + 1 + 1 by omega]
    simpa using ih
section
variable {w w' : World} {base n q : Nat} {T TF : TypeId} {v : Value} {rs : List ShR} {xs : List Shp} {r : ShR} {x : Shp}
theorem OwnShs.outerNe (h : OwnShs w base T TF v n rs xs) (hne : T ≠ TF) (hr : rs[q]? = some r) (hx : xs[q]? = some x) {b : Nat} (hb : (Value.slice r.a r.n r.cap).ownBlock = some b) : v.ownBlock ≠ some b := by
  intro e
  obtain ⟨c1, h1⟩ := own_box h.outer e
  obtain ⟨c2, h2⟩ := own_box (h.each q r x hr hx).2.2 hb
  rw [h1] at h2
  simp at h2
  exact hne h2.2
theorem OwnShs.outerKept (h : OwnShs w base T TF v n rs xs) (hne : T ≠ TF) (hr : rs[q]? = some r) (hx : xs[q]? = some x) (hg : w.grownBy w' (Value.slice r.a r.n r.cap).ownBlock) : w'.ownsRow base T 2 v n (rs.flatMap ShR.cs) := by
  cases hb : (Value.slice r.a r.n r.cap).ownBlock with
  | none =>
    refine h.outer.kept hg ?_
    rw [hb]
    cases hv : v.ownBlock with
    | none => exact .inl rfl
    | some g => exact .inr (by simp)
  | some b => exact h.outer.kept hg (.inr (by rw [hb]; exact h.outerNe hne hr hx hb))
theorem OwnShs.eachKept (h : OwnShs w base T TF v n rs xs) (hr : rs[q]? = some r) (hg : w.grownBy w' (Value.slice r.a r.n r.cap).ownBlock) {i : Nat} {s : ShR} {y : Shp} (hi : i ≠ q) (hs : rs[i]? = some s) (hy : xs[i]? = some y) : RowIs w' base TF s y := by
  obtain ⟨e1, e2, e3⟩ := h.each i s y hs hy
  refine ⟨e1, e2, e3.kept hg ?_⟩
  cases hb : (Value.slice s.a s.n s.cap).ownBlock with
  | none => exact .inl rfl
  | some b => exact .inr (fun e => h.apart i q s r hs hr hi b hb e.symm)
theorem OwnShs.row (h : OwnShs w base T TF v n rs xs) (hne : T ≠ TF) (hr : rs[q]? = some r) (hx : xs[q]? = some x) (hg : w.grownBy w' (Value.slice r.a r.n r.cap).ownBlock) {fs : List Fld} (hl : r.n = fs.length) (ho : w'.ownsRow base TF 5 (.slice r.a r.n r.cap) r.n (fs.flatMap Fld.cs)) :
    OwnShs w' base T TF v n rs (xs.set q ⟨x.id, fs⟩) := by
  refine ⟨h.len, by simp [h.lenx], h.outerKept hne hr hx hg, ?_, h.apart⟩
  intro i s y hs hy
  by_cases hi : q = i
  · subst hi
    rw [List.getElem?_set_self (List.getElem?_eq_some_iff.1 hx).1] at hy
    simp at hy; subst hy
    rw [hr] at hs; simp at hs; subst hs
    exact ⟨(h.each q r x hr hx).1, hl, ho⟩
  · rw [List.getElem?_set_ne hi] at hy
    exact h.eachKept hr hg (Ne.symm hi) hs hy
theorem OwnShs.growAt {g cap : Nat} (h : OwnShs w base T TF (.slice (some ⟨g, 0, none⟩) n cap) n rs xs) (hne : T ≠ TF) (hr : rs[q]? = some r) (hx : xs[q]? = some x) (hg : w.grownBy w' (Value.slice r.a r.n r.cap).ownBlock) {a' : Option Addr} {m' cap' : Nat} {fs : List Fld}
    (hl : m' = fs.length) (ho : w'.ownsRow base TF 5 (.slice a' m' cap') m' (fs.flatMap Fld.cs)) (hat : ∀ b, (Value.slice a' m' cap').ownBlock = some b → (Value.slice r.a r.n r.cap).ownBlock = some b ∨ w.heap.size ≤ b) :
    OwnShs (w'.setCell ⟨g, q * 2 + 1, none⟩ (.slice a' m' cap')) base T TF (.slice (some ⟨g, 0, none⟩) n cap) n (rs.set q ⟨r.id, a', m', cap'⟩) (xs.set q ⟨x.id, fs⟩) := by
  have hout := h.outerKept hne hr hx hg
  have hst := hout.stored (q * 2 + 1) (.slice a' m' cap')
  have hgl := (h.outer.lt g rfl).2
  have far : ∀ {s : ShR} {y : Shp}, RowIs w' base TF s y → RowIs (w'.setCell ⟨g, q * 2 + 1, none⟩ (.slice a' m' cap')) base TF s y := by
    intro s y ⟨e1, e2, e3⟩
    refine ⟨e1, e2, e3.kept hst.2 (.inr ?_)⟩
    intro e
    obtain ⟨c1, h1⟩ := own_box hout (g := g) rfl
    obtain ⟨c2, h2⟩ := own_box e3 e
    rw [h1] at h2
    simp at h2
    exact hne h2.2
  have hq := (List.getElem?_eq_some_iff.1 hr).1
  refine ⟨by simp [h.len], by simp [h.lenx], ?_, ?_, ?_⟩
  · have := hst.1
    rw [shr_setF rs q r ⟨r.id, a', m', cap'⟩ hr rfl] at this
    exact this
  · intro i s y hs hy
    by_cases hi : q = i
    · subst hi
      rw [List.getElem?_set_self hq] at hs
      rw [List.getElem?_set_self (List.getElem?_eq_some_iff.1 hx).1] at hy
      simp at hs hy; subst hs; subst hy
      exact far ⟨(h.each q r x hr hx).1, hl, ho⟩
    · rw [List.getElem?_set_ne hi] at hs hy
      exact far (h.eachKept hr hg (Ne.symm hi) hs hy)
  · have key : ∀ {j : Nat} {t : ShR} {y : Shp}, j ≠ q → rs[j]? = some t → xs[j]? = some y → ∀ b, (Value.slice a' m' cap').ownBlock = some b → (Value.slice t.a t.n t.cap).ownBlock ≠ some b := by
      intro j t y hj ht hy b hb hb'
      rcases hat b hb with h1 | h1
      · exact h.apart j q t r ht hr hj b hb' h1
      · have := ((h.each j t y ht hy).2.2.lt b hb').2
        omega
    have some_ : ∀ {j : Nat} {t : ShR}, rs[j]? = some t → ∃ y, xs[j]? = some y := by
      intro j t ht
      have := (List.getElem?_eq_some_iff.1 ht).1
      rw [h.len, ← h.lenx] at this
      exact ⟨xs[j], List.getElem?_eq_getElem this⟩
    intro i j s t hs ht hij b hb hb'
    by_cases hi : q = i
    · subst hi
      rw [List.getElem?_set_self hq] at hs
      rw [List.getElem?_set_ne hij] at ht
      simp at hs; subst hs
      obtain ⟨y, hy⟩ := some_ ht
      exact key (Ne.symm hij) ht hy b hb hb'
    · rw [List.getElem?_set_ne hi] at hs
      by_cases hj : q = j
      · subst hj
        rw [List.getElem?_set_self hq] at ht
        simp at ht; subst ht
        obtain ⟨y, hy⟩ := some_ hs
        exact key hij hs hy b hb' hb
      · rw [List.getElem?_set_ne hj] at ht
        exact h.apart i j s t hs ht hij b hb hb'
theorem OwnShs.setId {g cap : Nat} (h : OwnShs w base T TF (.slice (some ⟨g, 0, none⟩) n cap) n rs xs) (hne : T ≠ TF) (hr : rs[q]? = some r) (hx : xs[q]? = some x) (i : Int) :
    OwnShs (w.setCell ⟨g, q * 2, none⟩ (.int .i64 i)) base T TF (.slice (some ⟨g, 0, none⟩) n cap) n (rs.set q ⟨i, r.a, r.n, r.cap⟩) (xs.set q ⟨i, x.flds⟩) := by
  have hst := h.outer.stored (q * 2) (.int .i64 i)
  have far : ∀ {s : ShR} {y : Shp}, RowIs w base TF s y → RowIs (w.setCell ⟨g, q * 2, none⟩ (.int .i64 i)) base TF s y := by
    intro s y ⟨e1, e2, e3⟩
    refine ⟨e1, e2, e3.kept hst.2 (.inr ?_)⟩
    intro e
    obtain ⟨c1, h1⟩ := own_box h.outer (g := g) rfl
    obtain ⟨c2, h2⟩ := own_box e3 e
    rw [h1] at h2
    simp at h2
    exact hne h2.2
  have hq := (List.getElem?_eq_some_iff.1 hr).1
  refine ⟨by simp [h.len], by simp [h.lenx], ?_, ?_, ?_⟩
  · have := hst.1
    rw [shr_setId rs q r ⟨i, r.a, r.n, r.cap⟩ hr rfl rfl rfl] at this
    exact this
  · intro j s y hs hy
    by_cases hj : q = j
    · subst hj
      rw [List.getElem?_set_self hq] at hs
      rw [List.getElem?_set_self (List.getElem?_eq_some_iff.1 hx).1] at hy
      simp at hs hy; subst hs; subst hy
      obtain ⟨-, e2, e3⟩ := h.each q r x hr hx
      exact far ⟨rfl, e2, e3⟩
    · rw [List.getElem?_set_ne hj] at hs hy
      exact far (h.each j s y hs hy)
  · have same : ∀ {j : Nat} {t : ShR}, (rs.set q ⟨i, r.a, r.n, r.cap⟩)[j]? = some t → ∃ t0, rs[j]? = some t0 ∧ t0.a = t.a ∧ t0.n = t.n ∧ t0.cap = t.cap := by
      intro j t ht
      by_cases hj : q = j
      · subst hj
        rw [List.getElem?_set_self hq] at ht
        simp at ht; subst ht
        exact ⟨r, hr, rfl, rfl, rfl⟩
      · rw [List.getElem?_set_ne hj] at ht
        exact ⟨t, ht, rfl, rfl, rfl⟩
    intro j k s t hs ht hjk b hb hb'
    obtain ⟨s0, hs0, e1, e2, e3⟩ := same hs
    obtain ⟨t0, ht0, f1, f2, f3⟩ := same ht
    exact h.apart j k s0 t0 hs0 ht0 hjk b (by rw [e1, e2, e3]; exact hb) (by rw [f1, f2, f3]; exact hb')
end
end Go.Proofs.Ytbpilecgnfnndaa
namespace Go.Proofs.Ytbpilecgnfnndaa
set_option linter.unusedSimpArgs false
set_option linter.unusedVariables false
open Go.ChangeShapes Go.WideShapes Go.ChangeAt Go.RowKit Go.BigFrame
@[go_sem] theorem i64_and255 (n : Int) : bits .and .i64 n 255 = n % 256 := by
  have h127 : (BitVec.ofInt 64 255).toNat = 2 ^ 8 - 1 := by decide
  have key : (BitVec.ofInt 64 n &&& BitVec.ofInt 64 255).toNat = (n % ((2 ^ 64 : Nat) : Int)).toNat % 2 ^ 8 := by
    rw [BitVec.toNat_and, BitVec.toNat_ofInt, h127, Nat.and_two_pow_sub_one_eq_mod]
  show IntKind.i64.wrap ((BitVec.ofInt 64 n &&& BitVec.ofInt 64 255).toNat : Nat) = n % 256
  rw [key, IntKind.wrap_i64]
  omega
@[go_sem] theorem i64_and30 (n : Int) : bits .and .i64 n 1073741823 = n % 1073741824 := by
  have h127 : (BitVec.ofInt 64 1073741823).toNat = 2 ^ 30 - 1 := by decide
  have key : (BitVec.ofInt 64 n &&& BitVec.ofInt 64 1073741823).toNat = (n % ((2 ^ 64 : Nat) : Int)).toNat % 2 ^ 30 := by
    rw [BitVec.toNat_and, BitVec.toNat_ofInt, h127, Nat.and_two_pow_sub_one_eq_mod]
  show IntKind.i64.wrap ((BitVec.ofInt 64 n &&& BitVec.ofInt 64 1073741823).toNat : Nat) = n % 1073741824
  rw [key, IntKind.wrap_i64]
  omega
def Oth (B : Nat) (w w' : World) : Prop := w.grownBy w' (some B)
theorem Oth.refl (B : Nat) (w : World) : Oth B w w := ⟨rfl, rfl, rfl, Nat.le_refl _, fun _ _ _ => rfl⟩
theorem Oth.size {B : Nat} {w w' : World} (h : Oth B w w') : w.heap.size ≤ w'.heap.size := World.grownBy.size h
theorem Oth.block {B : Nat} {w w' : World} (h : Oth B w w') {b : Nat} (hb : b < w.heap.size) (hn : b ≠ B) : w'.heap[b]? = w.heap[b]? := World.grownBy.block h b hb (by simpa using hn)
theorem Oth.trans {B : Nat} {w w1 w2 : World} (h : Oth B w w1) (k : Oth B w1 w2) : Oth B w w2 :=
  ⟨(World.grownBy.os k).trans (World.grownBy.os h), (World.grownBy.tape k).trans (World.grownBy.tape h), (World.grownBy.output k).trans (World.grownBy.output h), Nat.le_trans h.size k.size,
    fun b hb hn => (World.grownBy.block k b (Nat.lt_of_lt_of_le hb h.size) hn).trans (World.grownBy.block h b hb hn)⟩
theorem Oth.of_below {B : Nat} {w w' : World} (h : Below w.heap.size w w') : Oth B w w' := ⟨h.os, h.tape, h.output, h.size, fun b hb _ => h.block b hb⟩
theorem Oth.setCell {B o : Nat} {w w' : World} (h : Oth B w w') (v : Value) : Oth B w (w'.setCell ⟨B, o, none⟩ v) := by
  refine h.trans ⟨rfl, rfl, rfl, by simp, fun b hb hn => ?_⟩
  exact heap_setCell_other w' ⟨B, o, none⟩ b v (fun e => hn (by simp [e]))
theorem Oth.below {B n : Nat} {w w' : World} (h : Oth B w w') (hn : n ≤ B) (hs : B < w.heap.size) : Below n w w' :=
  ⟨World.grownBy.os h, World.grownBy.tape h, World.grownBy.output h, h.size, fun b hb => h.block (by omega) (by omega)⟩
def Bys (w : World) (B : Nat) (a : Option Addr) (n : Nat) : Prop := ∀ k, k < n → ∃ b off, a = some ⟨b, off, none⟩ ∧ b < B ∧ ∃ x : Int, 0 ≤ x ∧ x ≤ 255 ∧ w.cell? ⟨b, off + k, none⟩ = some (.int .u8 x)
theorem Bys.oth {w w' : World} {B n : Nat} {a : Option Addr} (h : Bys w B a n) (ho : Oth B w w') (hB : B ≤ w.heap.size) : Bys w' B a n := by
  intro k hk
  obtain ⟨b, off, e, hb, y, hy0, hy1, cy⟩ := h k hk
  refine ⟨b, off, e, hb, y, hy0, hy1, ?_⟩
  have := ho.block (b := b) (by omega) (by omega)
  exact (World.cell?_of_block (w := w) (a := ⟨b, off + k, none⟩) this).trans cy
def Cur (w : World) (B : Nat) : Prop := ∃ (a : Option Addr) (n cap i : Nat) (h : Int), w.heap[B]? = some (.cells #[.slice a n cap, .int .i64 i, .int .i64 h] 97 (0, 0)) ∧ i ≤ n ∧ n ≤ 1048576 ∧ Bys w B a n
theorem Cur.lt {w : World} {B : Nat} (h : Cur w B) : B < w.heap.size := by
  obtain ⟨a, n, cap, i, x, hh, _⟩ := h
  rcases Nat.lt_or_ge B w.heap.size with h | h
  · exact h
  · rw [Array.getElem?_eq_none h] at hh; simp at hh
def Drawn (B : Nat) (lo hi : Int) (w : World) (r : Ending) (w' : World) : Prop := ∃ x : Int, r = .returned (.int .i64 x) ∧ lo ≤ x ∧ x ≤ hi ∧ Cur w' B ∧ Oth B w w'
set_option maxHeartbeats 2000000 in
theorem l1Byte_any (B : Nat) (w : World) (hc : Cur w B) : Calls Try.prog 88 #[.pointer (some ⟨B, 0, none⟩)] w (Drawn B 0 255 w) := by
  have hlt := hc.lt
  obtain ⟨a, n, cap, i, h, hh, hi, hn, hb⟩ := hc
  have c0 : w.cell? ⟨B, 0, none⟩ = some (.slice a n cap) := by simp [World.cell?, hh]
  have c1 : w.cell? ⟨B, 1, none⟩ = some (.int .i64 i) := by simp [World.cell?, hh]
  have c2 : w.cell? ⟨B, 2, none⟩ = some (.int .i64 h) := by simp [World.cell?, hh]
  have hfz : ∀ j, w.frozen? ⟨B, j, none⟩ = false := fun j => by simp [World.frozen?, hh]
  have HH := Lib.hid hh; clear hh
  by_cases hin : i < n
  · obtain ⟨b, off, rfl, hbB, x, hx0, hx1, cx⟩ := hb i hin
    have hbB' : b ≠ B := by omega
    go_enter Try.func88, Try.ntmps88
    go_wp2
    (refine wp_region_ext (by kernel_rfl) (by kernel_rfl) ?_; (repeat (go_big_quiet_step (fail))); refine wpQuiet_nil ?_; intro w1 hb1; obtain ⟨hc1, hf1⟩ := bcell hb1; have hz1 := hb1.size; (try simp only [World.size_alloc, World.size_setCell, World.size_drew] at hz1))
    have hB1 : B < w1.heap.size := by omega
    go_wp2
    (refine wp_region_ext (by kernel_rfl) (by kernel_rfl) ?_; (repeat (go_big_quiet_step (fail))); refine wpQuiet_nil ?_; intro w2 hb2; obtain ⟨hc2, hf2⟩ := bcell hb2; have hz2 := hb2.size; (try simp only [World.size_alloc, World.size_setCell, World.size_drew] at hz2))
    have hB2 : B < w2.heap.size := by omega
    have hb1' : b < w1.heap.size := by omega
    have hb2' : b < w2.heap.size := by omega
    have hin' : (i : Int) < n := by omega
    have cx2 : w2.cell? ⟨b, off + i, none⟩ = some (.int .u8 x) := by
      rw [hb2.cell (p := ⟨b, off + i, none⟩) hb1', hb1.cell (p := ⟨b, off + i, none⟩) (by simp; omega), World.cell?_setCell_far w ⟨B, 2, none⟩ ⟨b, off + i, none⟩ _ (Ne.symm hbB')]; exact cx
    have g1 := (hb1.block B (by simpa using hlt)).trans (heap_setCell_same w B 2 _ _ (.int .i64 (wrap64 (wrap64 (h * 6364136223846793005) + 1442695040888963407))) HH.out)
    have g2 := Lib.hid ((hb2.block B hB1).trans g1)
    have d0 : w2.cell? ⟨B, 0, none⟩ = some (.slice (some ⟨b, off, none⟩) n cap) := by simp [World.cell?, g2.out]
    have d1 : w2.cell? ⟨B, 1, none⟩ = some (.int .i64 i) := by simp [World.cell?, g2.out]
    have hfz2 : ∀ j, w2.frozen? ⟨B, j, none⟩ = false := fun j => by simp [World.frozen?, g2.out]
    clear hc1 hc2 hf1 hf2 g1 c0 c1 c2 hfz
    go_wp2
    (refine wp_region_ext (by kernel_rfl) (by kernel_rfl) ?_; (repeat (go_big_quiet_step (fail))); refine wpQuiet_nil ?_; intro w3 hb3; obtain ⟨hc3, hf3⟩ := bcell hb3; have hz3 := hb3.size; (try simp only [World.size_alloc, World.size_setCell, World.size_drew] at hz3))
    have hB3 : B < w3.heap.size := by omega
    go_wp2
    go_ret
    have g3 := (hb3.block B hB2).trans g2.out
    have hO : Oth B w (w3.setCell ⟨B, 1, none⟩ (.int .i64 (i + 1 : Nat))) := ((((Oth.refl B w).setCell _).trans (Oth.of_below hb1)).trans ((Oth.of_below hb2).trans (Oth.of_below hb3))).setCell _
    refine ⟨_, rfl, by omega, by omega, ⟨_, n, cap, i + 1, _, heap_setCell_same w3 B 1 _ _ (.int .i64 (i + 1 : Nat)) g3, by omega, hn, ?_⟩, ?_⟩
    · exact hb.oth hO (by omega)
    · exact hO
  · have hin' : ¬ (i : Int) < n := by omega
    go_enter Try.func88, Try.ntmps88
    go_wp2
    (refine wp_region_ext (by kernel_rfl) (by kernel_rfl) ?_; (repeat (go_big_quiet_step (fail))); refine wpQuiet_nil ?_; intro w1 hb1; obtain ⟨hc1, hf1⟩ := bcell hb1; have hz1 := hb1.size; (try simp only [World.size_alloc, World.size_setCell, World.size_drew] at hz1))
    have hB1 : B < w1.heap.size := by omega
    go_wp2
    (refine wp_region_ext (by kernel_rfl) (by kernel_rfl) ?_; (repeat (go_big_quiet_step (fail))); refine wpQuiet_nil ?_; intro w2 hb2; obtain ⟨hc2, hf2⟩ := bcell hb2; have hz2 := hb2.size; (try simp only [World.size_alloc, World.size_setCell, World.size_drew] at hz2))
    go_wp2
    go_ret
    have g1 := (hb1.block B (by simpa using hlt)).trans (heap_setCell_same w B 2 _ _ (.int .i64 (wrap64 (wrap64 (h * 6364136223846793005) + 1442695040888963407))) HH.out)
    have g2 := (hb2.block B hB1).trans g1
    have hO : Oth B w w2 := (((Oth.refl B w).setCell _).trans (Oth.of_below hb1)).trans (Oth.of_below hb2)
    exact ⟨_, rfl, by omega, by omega, ⟨a, n, cap, i, _, g2, hi, hn, hb.oth hO (by omega)⟩, hO⟩
set_option maxHeartbeats 2000000 in
theorem l1Below_any (B : Nat) (n : Int) (w : World) (hc : Cur w B) (h0 : 0 < n) (h1 : n ≤ 256) : Calls Try.prog 63 #[.pointer (some ⟨B, 0, none⟩), .int .i64 n] w (Drawn B 0 (n - 1) w) := by
  have hn0 : ¬ n ≤ 0 := by omega
  have hn1 : 1 ≤ n := by omega
  go_enter Try.func63, Try.ntmps63
  go_wp2_with fail
  refine (l1Byte_any B w hc).mono ?_
  rintro r w1 ⟨x, rfl, hx0, hx1, hc1, ho1⟩
  have hm0 : 0 ≤ x % n := Int.emod_nonneg _ (by omega)
  have hm1 : x % n < n := Int.emod_lt_of_pos _ h0
  go_wp2
  go_ret
  exact ⟨_, rfl, by omega, by omega, hc1, ho1⟩
def Code (w : World) (a : Option Addr) (n : Nat) : Prop := ∀ k, k < n → ∃ b off, a = some ⟨b, off, none⟩ ∧ b < w.heap.size ∧ ∃ x : Int, 0 ≤ x ∧ x ≤ 255 ∧ w.cell? ⟨b, off + k, none⟩ = some (.int .u8 x)
theorem Code.keep {w w' : World} {a : Option Addr} {n : Nat} (h : Code w a n) (hb : Below w.heap.size w w') : Code w' a n := by
  intro k hk
  obtain ⟨b, off, e, hb1, y, hy0, hy1, cy⟩ := h k hk
  exact ⟨b, off, e, Nat.lt_of_lt_of_le hb1 hb.size, y, hy0, hy1, (hb.cell (p := ⟨b, _, none⟩) hb1).trans cy⟩
@[reducible] def byCs (x : Int) : List Value := [.int .u8 x]
def ByOk (x : Int) : Prop := 0 ≤ x ∧ x ≤ 255
theorem code_of {w : World} {a : Option Addr} {cap : Nat} {xs : List Int} (h : (⟨a, cap, xs⟩ : SlArg Int).ok 1 byCs ByOk w) : Code w a xs.length := by
  intro k hk
  obtain ⟨b, off, e, hb, hc⟩ := h.sl k xs[k] (List.getElem?_eq_getElem hk)
  exact ⟨b, off, e, hb, xs[k], (h.each _ (List.getElem_mem hk)).1, (h.each _ (List.getElem_mem hk)).2, by simpa using hc 0 _ rfl⟩
theorem flat_bytes : flat Try.prog 9 22 = some [.sl [CK.int .u8]] := by kernel_rfl
theorem cells_bytes : Try.prog.cellsOf 22 = 1 := by kernel_rfl
set_option maxRecDepth 100000 in
theorem openBytes {H : Type} {enc : TypeId × Value → H} {W : World} {base : Nat} {sp : Nat → Bool} {v : Value} {d : DataW H} {ps : List MemPlace}
    (hv : Value.okWide Try.prog W .any base 22 v) (h : DataW.Trod enc Try.prog W 0 sp true 22 v d ps) : ∃ x : SlArg Int, v = x.val ∧ x.ok 1 byCs ByOk W := by
  obtain ⟨a0, len, cap, rfl⟩ := okWide_slice Try.underlying22 hv
  obtain ⟨x, hx, hk⟩ := flat_trod flat_bytes cells_bytes h 0 _ rfl
  simp only [Value.cells, List.getElem?_cons_zero, Option.some.injEq] at hx
  subst hx
  refine sl_open (hk 2) rfl (by omega) (fun _ => rfl) fun l hl hj => ?_
  match l, hl with
  | [c], _ =>
    obtain ⟨x0, e0, h0⟩ := hj 0 _ rfl
    obtain ⟨n0, rfl, w0⟩ := ok_int h0
    simp at e0
    exact ⟨n0, by simp [byCs, e0], by simpa [Lit.wf, IntKind.min, IntKind.max, IntKind.signed, IntKind.bits, ByOk] using w0⟩
def NewCur (w : World) (r : Ending) (w' : World) : Prop := ∃ B, r = .returned (.pointer (some ⟨B, 0, none⟩)) ∧ w.heap.size ≤ B ∧ Cur w' B ∧ Below w.heap.size w w'
theorem newCur_mk {w : World} {a : Option Addr} {n cap : Nat} {m : Int} (h : Code w a n) (hn : n ≤ 1048576) :
    NewCur w (.returned (.pointer (some ⟨w.heap.size, 0, none⟩))) (w.alloc (.cells #[.slice a n cap, .int .i64 0, .int .i64 m] 97)) := by
  refine ⟨w.heap.size, rfl, Nat.le_refl _, ⟨a, n, cap, 0, m, heap_alloc_new w _, Nat.zero_le _, hn, ?_⟩, (Below.refl _ _).alloc (Nat.le_refl _) _⟩
  intro k hk
  obtain ⟨b, off, e, hb, y, hy0, hy1, cy⟩ := h k hk
  exact ⟨b, off, e, hb, y, hy0, hy1, ((Below.refl w.heap.size w).alloc (Nat.le_refl _) _).cell (p := ⟨b, _, none⟩) hb |>.trans cy⟩
set_option maxRecDepth 100000 in
set_option maxHeartbeats 2000000 in
theorem l1New_any (a : Option Addr) (cap n : Nat) (w : World) (h : Code w a n) (hn : n ≤ 1048576) : Calls Try.prog 31 #[.slice a n cap] w (NewCur w) := by
  go_enter Try.func31, Try.ntmps31
  go_wp2
  go_loop [3, 4] (fun t i => ∃ k : Nat, k ≤ n ∧ i = .int .i64 k ∧ ∃ m : Int, t = .int .i64 m) (fun _ i => n - (intOf i).toNat)
  case atStart => exact ⟨0, Nat.zero_le _, rfl, _, rfl⟩
  case round =>
    obtain ⟨k, hk, rfl, m, rfl⟩ := hrel
    by_cases hlt : k < n
    · obtain ⟨b, off, rfl, hb, x, hx0, hx1, cx⟩ := h k hlt
      by_cases h4 : k < 4000
      · go_wp2
        go_round
        case rel => exact ⟨k + 1, by omega, by go_num, _, rfl⟩
        case measure => simp [intOf]; omega
      · go_wp2
        go_ret
        exact newCur_mk h hn
    · go_wp2
      go_ret
      exact newCur_mk h hn
theorem big_any (a : Option Addr) (cap n : Nat) (w : World) : Calls Try.prog 6 #[.slice a n cap] w fun r w' => r = .returned (.bool (decide (1048576 < (n : Int)))) ∧ w = w' := by
  go_enter Try.func6, Try.ntmps6
  go_wp2
  go_ret
  exact ⟨ret_bool (by simp), rfl⟩
theorem Code.tail {w : World} {b off n : Nat} (h : Code w (some ⟨b, off, none⟩) n) : Code w (some ⟨b, off + 1, none⟩) (n - 1) := by
  intro k hk
  obtain ⟨b', off', e, hb, y, hy0, hy1, cy⟩ := h (k + 1) (by omega)
  simp only [Option.some.injEq, Addr.mk.injEq, and_true] at e
  obtain ⟨rfl, rfl⟩ := e
  exact ⟨b, off + 1, rfl, hb, y, hy0, hy1, by rw [show off + 1 + k = off + (k + 1) by omega]; exact cy⟩
theorem Cur.below {w w' : World} {B : Nat} (h : Cur w B) (hb : Below w.heap.size w w') : Cur w' B := by
  have hlt := h.lt
  obtain ⟨a, n, cap, i, x, hh, hi, hn, hby⟩ := h
  exact ⟨a, n, cap, i, x, (hb.block B hlt).trans hh, hi, hn, hby.oth (Oth.of_below hb) (by omega)⟩
structure Up (B : Nat) (w0 w : World) : Prop where
  cur : Cur w B
  oth : Oth B w0 w
theorem Cur.same {w w' : World} {B : Nat} (h : Cur w B) (hs : ∀ k, k ≤ B → w'.heap[k]? = w.heap[k]?) : Cur w' B := by
  obtain ⟨a, n, cap, i, x, hh, hi, hn, hb⟩ := h
  refine ⟨a, n, cap, i, x, (hs B (Nat.le_refl _)).trans hh, hi, hn, fun k hk => ?_⟩
  obtain ⟨b, off, e, hb', y, h0, h1, hc⟩ := hb k hk
  exact ⟨b, off, e, hb', y, h0, h1, (World.cell?_of_block (a := ⟨b, off + k, none⟩) (hs b (by omega))).trans hc⟩
theorem Up.grown {B : Nat} {w0 w w' : World} {row : Option Nat} (h : Up B w0 w) (hB : B < w0.heap.size) (hg : w.grownBy w' row) (hr : ∀ g, row = some g → w0.heap.size ≤ g) : Up B w0 w' := by
  have hsz := h.oth.size
  refine ⟨h.cur.same fun k hk => hg.block k (by omega) (fun e => by have := hr k e.symm; omega), ⟨hg.os.trans h.oth.os, hg.tape.trans h.oth.tape, hg.output.trans h.oth.output, Nat.le_trans hsz hg.size, fun k hk hn => ?_⟩⟩
  exact (hg.block k (by omega) (fun e => by have := hr k e.symm; omega)).trans (h.oth.block hk (by simpa using hn))
theorem Up.alloc {B : Nat} {w0 w : World} (h : Up B w0 w) (hB : B < w0.heap.size) (o : Obj) : Up B w0 (w.alloc o) := h.grown hB (World.grownBy_alloc w o none) (by simp)
theorem Up.step {B : Nat} {w0 w w' : World} (h : Up B w0 w) (hc : Cur w' B) (ho : Oth B w w') : Up B w0 w' := ⟨hc, h.oth.trans ho⟩
theorem Up.refl {B : Nat} {w : World} (h : Cur w B) : Up B w w := ⟨h, Oth.refl _ _⟩
theorem owns_oth {w w' : World} {B base n size : Nat} {t : TypeId} {v : Value} {L : List Value} (h : w.ownsRow base t size v n L) (ho : Oth B w w') (hB : B < base) : w'.ownsRow base t size v n L :=
  h.kept ho (.inr (by
    intro e
    have h1 := h.lt B e
    omega))
def DrawnO (B : Nat) (w : World) (r : Ending) (w' : World) : Prop := ∃ b : Bool, r = .returned (.bool b) ∧ Cur w' B ∧ Oth B w w'
theorem l1Once_any (B : Nat) (n : Int) (w : World) (hc : Cur w B) (h0 : 0 < n) (h1 : n ≤ 256) :
    Calls Try.prog 64 #[.pointer (some ⟨B, 0, none⟩), .int .i64 n] w (DrawnO B w) := by
  go_enter Try.func64, Try.ntmps64
  go_wp2_with fail
  refine (l1Below_any B n w hc h0 h1).mono ?_
  rintro r w1 ⟨x, rfl, hx0, hx1, hc1, ho1⟩
  go_wp2
  go_ret
  exact ⟨_, rfl, hc1, ho1⟩
theorem Up.below {B n : Nat} {w0 w w' : World} (h : Up B w0 w) (hB : B < w0.heap.size) (hb : Below n w w') (hn : w0.heap.size ≤ n) : Up B w0 w' :=
  ⟨h.cur.same fun k hk => hb.block k (by omega), ⟨hb.os.trans h.oth.os, hb.tape.trans h.oth.tape, hb.output.trans h.oth.output, Nat.le_trans h.oth.size hb.size, fun k hk hn' => (hb.block k (by omega)).trans (h.oth.block hk (by simpa using hn'))⟩⟩
def DrawnIn (B : Nat) (l : List Int) (w : World) (r : Ending) (w' : World) : Prop := ∃ x : Int, r = .returned (.int .i64 x) ∧ x ∈ l ∧ Cur w' B ∧ Oth B w w'
theorem l1PickInt_in (B g cap : Nat) (l : List Int) (t : TypeId) (w : World) (hc : Cur w B) (hg : g ≠ B) (h : w.heap[g]? = some (.cells (l.map (Value.int .i64)).toArray t (0, 0))) (h0 : 0 < l.length) (h1 : l.length ≤ 256) :
    Calls Try.prog 65 #[.pointer (some ⟨B, 0, none⟩), .slice (some ⟨g, 0, none⟩) l.length cap] w (DrawnIn B l w) := by
  obtain ⟨n, hn⟩ : ∃ n, n = l.length := ⟨_, rfl⟩
  rw [← hn] at h0 h1 ⊢
  have HN := Lib.hid hn; clear hn
  have HH := Lib.hid h; clear h
  go_enter Try.func65, Try.ntmps65
  go_wp2_with fail
  refine (l1Below_any B n w hc (by omega) (by omega)).mono ?_
  rintro r w1 ⟨x, rfl, hx0, hx1, hc1, ho1⟩
  obtain ⟨k, rfl⟩ := Int.eq_ofNat_of_zero_le hx0
  have hgl : g < w.heap.size := box_lt HH.out
  have hb := (ho1.block hgl hg).trans HH.out
  have hkl : k < l.length := by have := HN.out; omega
  obtain ⟨x, hx, hxm⟩ : ∃ x : Int, w1.cell? ⟨g, k, none⟩ = some (.int .i64 x) ∧ x ∈ l := ⟨l[k], by simp [World.cell?, hb, hkl], List.getElem_mem hkl⟩
  clear hb
  have HXm := Lib.hid hxm; clear hxm
  go_wp2
  go_ret
  exact ⟨x, rfl, HXm.out, hc1, ho1⟩
def DrawnW (B : Nat) (w : World) (r : Ending) (w' : World) : Prop := ∃ x : Int, r = .returned (.int .i64 x) ∧ W64 x ∧ Cur w' B ∧ Oth B w w'
theorem w64_lim {u : Int} (h0 : -9223372036854775808 ≤ u) (h1 : u ≤ 9223372036854775807) : W64 u := by
  unfold W64; simp [Lit.wf, IntKind.min, IntKind.max, IntKind.signed, IntKind.bits]; omega
set_option maxRecDepth 100000 in
set_option maxHeartbeats 2000000 in
theorem l4Number_w (B : Nat) (w : World) (hc : Cur w B) : Calls Try.prog 48 #[.pointer (some ⟨B, 0, none⟩)] w (DrawnW B w) := by
  have hB := hc.lt
  go_enter Try.func48, Try.ntmps48
  go_wp2_with fail
  refine (l1Once_any B 4 w hc (by omega) (by omega)).mono ?_
  rintro r w1 ⟨b, rfl, hc1, ho1⟩
  have hz1 := ho1.size
  cases b
  · go_wp2_with fail
    refine (l1Below_any B 20 w1 hc1 (by omega) (by omega)).mono ?_
    rintro r w2 ⟨x, rfl, hx0, hx1, hc2, ho2⟩
    go_wp2
    go_ret
    exact ⟨_, rfl, w64_lim (by omega) (by omega), hc2, ho1.trans ho2⟩
  · go_wp2_with fail
    have hu := (Up.step (Up.refl hc) hc1 ho1).alloc hB
    refine (l1PickInt_in B w1.heap.size 10 [0, 1, -1, 18999, 19000, 19999, 20000, 536870911, 536870912, 9223372036854775807] _ _ (hu _).cur (by omega) (heap_alloc_new _ _) (by decide) (by decide)).mono ?_
    rintro r w2 ⟨x, rfl, hxm, hc2, ho2⟩
    have hw : W64 x := by
      simp only [List.mem_cons, List.not_mem_nil, or_false] at hxm
      rcases hxm with rfl | rfl | rfl | rfl | rfl | rfl | rfl | rfl | rfl | rfl <;> exact w64_lim (by omega) (by omega)
    clear hxm
    have HW := Lib.hid hw; clear hw
    go_wp2
    go_ret
    exact ⟨x, rfl, HW.out, hc2, (hu _).oth.trans ho2⟩
end Go.Proofs.Ytbpilecgnfnndaa

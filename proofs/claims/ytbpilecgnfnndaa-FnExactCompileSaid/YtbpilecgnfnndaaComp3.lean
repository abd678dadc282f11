/- Texts that CompL leans on, part 3. (Put together by wip/tools/bundle.py.) -/
import Derived.Test.YtbpilecgnfnndaaComp1
import Derived.Test.YtbpilecgnfnndaaComp2
namespace Go.Proofs.Ytbpilecgnfnndaa
set_option linter.unusedSimpArgs false
set_option linter.unusedVariables false
open Go.ChangeShapes Go.WideShapes Go.ChangeAt Go.RowKit Go.BigFrame
def hasNum (fs : List Fld) (n : Int) : Bool := fs.any fun f => f.number == n
def hasId (xs : List Shp) (i : Int) : Bool := xs.any fun x => x.id == i
theorem any_hit {α : Type} {p : α → Bool} {xs : List α} {k : Nat} {e : α} (he : xs[k]? = some e) (h : p e = true) : xs.any p = true := List.any_eq_true.2 ⟨e, List.mem_of_getElem? he, h⟩
theorem any_snoc {α : Type} {p : α → Bool} {xs : List α} {k : Nat} {e : α} (he : xs[k]? = some e) : (xs.take (k + 1)).any p = ((xs.take k).any p || p e) := by
  rw [List.take_add_one, he]; simp
set_option maxHeartbeats 2000000 in
theorem l6HasNumber_any (a : Option Addr) (cap n : Nat) (fs : List Fld) (x : Int) (w : World) (h : Flds w a fs) (hl : fs.length = n) (hn : n ≤ 1048576) :
    Calls Try.prog 74 #[.slice a n cap, .int .i64 x] w fun r w' => r = .returned (.bool (hasNum fs x)) ∧ Below w.heap.size w w' := by
  have HL := Lib.hid hl; clear hl
  obtain ⟨R, hR⟩ : ∃ R, hasNum fs x = R := ⟨_, rfl⟩
  rw [hR]
  have HR := Lib.hid hR; clear hR
  go_enter Try.func74, Try.ntmps74
  go_wp2
  go_loop [5] (fun i => ∃ k : Nat, k ≤ n ∧ i = .int .i64 k ∧ Hid ((fs.take k).any (fun f => f.number == x) = false)) (fun i => n - (intOf i).toNat)
  case atStart => exact ⟨0, Nat.zero_le _, rfl, Lib.hid (by simp)⟩
  case round =>
    obtain ⟨k, hk, rfl, HK⟩ := hrel
    by_cases hlt : k < n
    · obtain ⟨f, hf, _⟩ := at_lt (xs := fs) (k := k) (by rw [HL.out]; exact hlt)
      obtain ⟨b, off, rfl, hbl, d0, -⟩ := Flds.at h hf
      have HF := Lib.hid hf; clear hf
      cases hq : (f.number == x)
      · have HK2 := Lib.hid (show (fs.take (k + 1)).any (fun f => f.number == x) = false by rw [any_snoc HF.out, HK.out, hq]; rfl)
        go_wp2
        go_round
        case rel => exact ⟨k + 1, by omega, by go_num, HK2⟩
        case measure => simp [intOf]; omega
      · have HB := Lib.hid (show true = R by rw [← HR.out, hasNum, any_hit HF.out hq])
        go_wp2
        go_ret
        exact ⟨ret_bool HB.out, by ((repeat (first | (with_reducible exact Below.refl _ _) | (with_reducible assumption) | (with_reducible refine Below.alloc ?_ ?_ _) | (with_reducible refine Below.setCell ?_ ?_ _) | (with_reducible refine Below.drew ?_) | (with_reducible refine below_setRow ?_ ?_ _) | (refine Below.trans ?_ (Below.mono (by assumption) ?_)))); all_goals (first | omega | (simp; done) | (simp; omega)))⟩
    · have HB := Lib.hid (show false = R by rw [← HR.out, hasNum]; have := HK.out; rw [List.take_of_length_le (by rw [HL.out]; omega)] at this; exact this.symm)
      go_wp2
      go_ret
      exact ⟨ret_bool HB.out, by ((repeat (first | (with_reducible exact Below.refl _ _) | (with_reducible assumption) | (with_reducible refine Below.alloc ?_ ?_ _) | (with_reducible refine Below.setCell ?_ ?_ _) | (with_reducible refine Below.drew ?_) | (with_reducible refine below_setRow ?_ ?_ _) | (refine Below.trans ?_ (Below.mono (by assumption) ?_)))); all_goals (first | omega | (simp; done) | (simp; omega)))⟩
theorem Shs.at {w : World} {a : Option Addr} {xs : List Shp} (h : Shs w a xs) {k : Nat} {x : Shp} (hx : xs[k]? = some x) :
    ∃ b off a' cap', a = some ⟨b, off, none⟩ ∧ b < w.heap.size ∧ w.cell? ⟨b, off + k * 2, none⟩ = some (.int .i64 x.id) ∧ w.cell? ⟨b, off + k * 2 + 1, none⟩ = some (.slice a' x.flds.length cap') ∧ Flds w a' x.flds := h k x hx
set_option maxHeartbeats 2000000 in
theorem l6HasId_any (a : Option Addr) (cap n m : Nat) (xs : List Shp) (x : Int) (w : World) (h : Shs w a xs) (hl : xs.length = n) (hn : n ≤ 1048576) (hm : m ≤ n) :
    Calls Try.prog 72 #[.agg #[.slice a n cap], .int .i64 x, .int .i64 m] w fun r w' => r = .returned (.bool (hasId (xs.take m) x)) ∧ Below w.heap.size w w' := by
  have HL := Lib.hid hl; clear hl
  obtain ⟨R, hR⟩ : ∃ R, hasId (xs.take m) x = R := ⟨_, rfl⟩
  rw [hR]
  have HR := Lib.hid hR; clear hR
  go_enter Try.func72, Try.ntmps72
  go_wp2
  have hh : Shs (w.alloc (.cells #[.slice a n cap] 26)) a xs := h.keep (by ((repeat (first | (with_reducible exact Below.refl _ _) | (with_reducible assumption) | (with_reducible refine Below.alloc ?_ ?_ _) | (with_reducible refine Below.setCell ?_ ?_ _) | (with_reducible refine Below.drew ?_) | (with_reducible refine below_setRow ?_ ?_ _) | (refine Below.trans ?_ (Below.mono (by assumption) ?_)))); all_goals (first | omega | (simp; done) | (simp; omega))))
  have HH := Lib.hid hh; clear hh
  go_loop [7] (fun i => ∃ k : Nat, k ≤ m ∧ i = .int .i64 k ∧ Hid ((xs.take k).any (fun f => f.id == x) = false)) (fun i => m - (intOf i).toNat)
  case atStart => exact ⟨0, Nat.zero_le _, rfl, Lib.hid (by simp)⟩
  case round =>
    obtain ⟨k, hk, rfl, HK⟩ := hrel
    by_cases hlt : k < m
    · obtain ⟨f, hf, _⟩ := at_lt (xs := xs) (k := k) (by rw [HL.out]; omega)
      obtain ⟨b, off, a', cap', rfl, hbl, d0, -⟩ := Shs.at HH.out hf
      have hkn : k < n := by omega
      have HF := Lib.hid hf; clear hf
      cases hq : (f.id == x)
      · have HK2 := Lib.hid (show (xs.take (k + 1)).any (fun f => f.id == x) = false by rw [any_snoc HF.out, HK.out, hq]; rfl)
        go_wp2
        go_round
        case rel => exact ⟨k + 1, by omega, by go_num, HK2⟩
        case measure => simp [intOf]; omega
      · have HB := Lib.hid (show true = R by rw [← HR.out, hasId]; exact (any_hit (k := k) (e := f) (xs := xs.take m) (p := fun y => y.id == x) (by rw [List.getElem?_take, if_pos hlt]; exact HF.out) hq).symm)
        go_wp2
        go_ret
        exact ⟨ret_bool HB.out, by ((repeat (first | (with_reducible exact Below.refl _ _) | (with_reducible assumption) | (with_reducible refine Below.alloc ?_ ?_ _) | (with_reducible refine Below.setCell ?_ ?_ _) | (with_reducible refine Below.drew ?_) | (with_reducible refine below_setRow ?_ ?_ _) | (refine Below.trans ?_ (Below.mono (by assumption) ?_)))); all_goals (first | omega | (simp; done) | (simp; omega)))⟩
    · obtain rfl : k = m := by omega
      have HB := Lib.hid (show false = R by rw [← HR.out, hasId]; exact HK.out.symm)
      go_wp2
      go_ret
      exact ⟨ret_bool HB.out, by ((repeat (first | (with_reducible exact Below.refl _ _) | (with_reducible assumption) | (with_reducible refine Below.alloc ?_ ?_ _) | (with_reducible refine Below.setCell ?_ ?_ _) | (with_reducible refine Below.drew ?_) | (with_reducible refine below_setRow ?_ ?_ _) | (refine Below.trans ?_ (Below.mono (by assumption) ?_)))); all_goals (first | omega | (simp; done) | (simp; omega)))⟩
def msgC (xs : List Shp) (i : Nat) (x : Shp) : Int := if inB x.id 1 99 = false then 2 else if hasId (xs.take i) x.id = true then 3 else if 8 < x.flds.length then 4 else 0
set_option maxHeartbeats 2000000 in
theorem specMsgCode_any (a : Option Addr) (cap n i : Nat) (xs : List Shp) (x : Shp) (w : World) (h : Shs w a xs) (hl : xs.length = n) (hn : n ≤ 1048576) (hx : xs[i]? = some x) (hi : i < n) (hf : x.flds.length ≤ 1048576) :
    Calls Try.prog 40 #[.agg #[.slice a n cap], .int .i64 i] w fun r w' => r = .returned (.int .i64 (msgC xs i x)) ∧ Below w.heap.size w w' := by
  have HL := Lib.hid hl; clear hl
  obtain ⟨R, hR⟩ : ∃ R, msgC xs i x = R := ⟨_, rfl⟩
  rw [hR]
  have HR := Lib.hid hR; clear hR
  obtain ⟨b, off, a', cap', rfl, hbl, c0, c1, -⟩ := Shs.at h hx
  have HX := Lib.hid hx; clear hx
  have hb1 : inB (i : Int) 0 ((n : Int) - 1) = true := by simp only [inB, decide_eq_true_eq]; omega
  have hii : (i : Int) < (n : Int) := by omega
  have HH := Lib.hid h; clear h
  go_enter Try.func40, Try.ntmps40
  cases h1 : inB x.id 1 99
  · have HB := Lib.hid (show (2 : Int) = R by rw [← HR.out, msgC, if_pos h1])
    go_wp2_with (first | (go_at_call 43; refine (l1In_any _ _ _ _).mono ?_; rintro r w1 ⟨rfl, rfl⟩))
    go_ret
    exact ⟨ret_int HB.out, by ((repeat (first | (with_reducible exact Below.refl _ _) | (with_reducible assumption) | (with_reducible refine Below.alloc ?_ ?_ _) | (with_reducible refine Below.setCell ?_ ?_ _) | (with_reducible refine Below.drew ?_) | (with_reducible refine below_setRow ?_ ?_ _) | (refine Below.trans ?_ (Below.mono (by assumption) ?_)))); all_goals (first | omega | (simp; done) | (simp; omega)))⟩
  · go_wp2_with (first | (go_at_call 43; refine (l1In_any _ _ _ _).mono ?_; rintro r w1 ⟨rfl, rfl⟩))
    refine (l6HasId_any (some ⟨b, off, none⟩) cap n i xs x.id _ (HH.out.keep (by ((repeat (first | (with_reducible exact Below.refl _ _) | (with_reducible assumption) | (with_reducible refine Below.alloc ?_ ?_ _) | (with_reducible refine Below.setCell ?_ ?_ _) | (with_reducible refine Below.drew ?_) | (with_reducible refine below_setRow ?_ ?_ _) | (refine Below.trans ?_ (Below.mono (by assumption) ?_)))); all_goals (first | omega | (simp; done) | (simp; omega))))) HL.out hn (by omega)).mono ?_
    rintro r w2 ⟨rfl, hb2⟩
    have hM := (hb2.block (w.heap.size + 1) (by simp)).trans (hset_new (o := .cells #[.int .i64 x.id, .slice a' x.flds.length cap'] 40) (by simp))
    have kM := box_cells hM
    have hbw : Below w.heap.size w w2 := by ((repeat (first | (with_reducible exact Below.refl _ _) | (with_reducible assumption) | (with_reducible refine Below.alloc ?_ ?_ _) | (with_reducible refine Below.setCell ?_ ?_ _) | (with_reducible refine Below.drew ?_) | (with_reducible refine below_setRow ?_ ?_ _) | (refine Below.trans ?_ (Below.mono (by assumption) ?_)))); all_goals (first | omega | (simp; done) | (simp; omega)))
    clear hb2 hM
    cases h2 : hasId (xs.take i) x.id
    · by_cases h8 : 8 < x.flds.length
      · have HB := Lib.hid (show (4 : Int) = R by rw [← HR.out, msgC, if_neg (by rw [h1]; simp), if_neg (by rw [h2]; simp), if_pos h8])
        have h8' : (8 : Int) < (x.flds.length : Int) := by omega
        go_wp2
        go_ret
        exact ⟨ret_int HB.out, by ((repeat (first | (with_reducible exact Below.refl _ _) | (with_reducible assumption) | (with_reducible refine Below.alloc ?_ ?_ _) | (with_reducible refine Below.setCell ?_ ?_ _) | (with_reducible refine Below.drew ?_) | (with_reducible refine below_setRow ?_ ?_ _) | (refine Below.trans ?_ (Below.mono (by assumption) ?_)))); all_goals (first | omega | (simp; done) | (simp; omega)))⟩
      · have HB := Lib.hid (show (0 : Int) = R by rw [← HR.out, msgC, if_neg (by rw [h1]; simp), if_neg (by rw [h2]; simp), if_neg h8])
        have h8' : decide ((8 : Int) < (x.flds.length : Int)) = false := decide_eq_false (by omega)
        go_wp2
        go_ret
        exact ⟨ret_int HB.out, by ((repeat (first | (with_reducible exact Below.refl _ _) | (with_reducible assumption) | (with_reducible refine Below.alloc ?_ ?_ _) | (with_reducible refine Below.setCell ?_ ?_ _) | (with_reducible refine Below.drew ?_) | (with_reducible refine below_setRow ?_ ?_ _) | (refine Below.trans ?_ (Below.mono (by assumption) ?_)))); all_goals (first | omega | (simp; done) | (simp; omega)))⟩
    · have HB := Lib.hid (show (3 : Int) = R by rw [← HR.out, msgC, if_neg (by rw [h1]; simp), if_pos h2])
      go_wp2
      go_ret
      exact ⟨ret_int HB.out, by ((repeat (first | (with_reducible exact Below.refl _ _) | (with_reducible assumption) | (with_reducible refine Below.alloc ?_ ?_ _) | (with_reducible refine Below.setCell ?_ ?_ _) | (with_reducible refine Below.drew ?_) | (with_reducible refine below_setRow ?_ ?_ _) | (refine Below.trans ?_ (Below.mono (by assumption) ?_)))); all_goals (first | omega | (simp; done) | (simp; omega)))⟩
def ShsL (w : World) (a : Option Addr) (xs : List Shp) : Prop :=
  ∀ (k : Nat) (x : Shp), xs[k]? = some x → ∃ b off a' cap', a = some ⟨b, off, none⟩ ∧ b < w.heap.size ∧ w.cell? ⟨b, off + k * 2, none⟩ = some (.int .i64 x.id) ∧ w.cell? ⟨b, off + k * 2 + 1, none⟩ = some (.slice a' x.flds.length cap') ∧ Flds w a' x.flds ∧ x.flds.length ≤ cap'
theorem ShsL.shs {w : World} {a : Option Addr} {xs : List Shp} (h : ShsL w a xs) : Shs w a xs := fun k x hx => by
  obtain ⟨b, off, a', cap', h1, h2, h3, h4, h5, _⟩ := h k x hx
  exact ⟨b, off, a', cap', h1, h2, h3, h4, h5⟩
theorem ShsL.keep {w w' : World} {a : Option Addr} {xs : List Shp} (h : ShsL w a xs) (hb : Below w.heap.size w w') : ShsL w' a xs := fun k x hx => by
  obtain ⟨b, off, a', cap', h1, h2, h3, h4, h5, h6⟩ := h k x hx
  exact ⟨b, off, a', cap', h1, Nat.lt_of_lt_of_le h2 hb.size, (hb.cell (p := ⟨b, _, none⟩) h2).trans h3, (hb.cell (p := ⟨b, _, none⟩) h2).trans h4, Sl.keep h5 hb, h6⟩
theorem own_lecapR {w : World} {base n cap size : Nat} {t : TypeId} {a : Option Addr} {L : List Value} (h : w.ownsRow base t size (.slice a n cap) n L) : n ≤ cap := by
  rcases h.2 with ⟨e, h0⟩ | ⟨g, c, cur, e, _, _, hc, _⟩
  · simp only [Value.slice.injEq] at e; omega
  · simp only [Value.slice.injEq] at e; omega
theorem OwnShs.shsL {w : World} {base : Nat} {T TF : TypeId} {a : Option Addr} {n cap : Nat} {rs : List ShR} {xs : List Shp} (h : OwnShs w base T TF (.slice a n cap) n rs xs) : ShsL w a xs := by
  intro k x hx
  have hk : k < xs.length := by
    rcases Nat.lt_or_ge k xs.length with h | h
    · exact h
    · rw [List.getElem?_eq_none h] at hx; simp at hx
  have hkr : k < rs.length := by rw [h.len, ← h.lenx]; exact hk
  obtain ⟨a1, cap1, e, _, _, hs⟩ := Sl.of_owns shR_len h.outer h.len
  simp only [Value.slice.injEq] at e
  obtain ⟨rfl, _, rfl⟩ := e
  obtain ⟨b, off, ha, hlt, hc⟩ := hs k rs[k] (List.getElem?_eq_getElem hkr)
  obtain ⟨h1, h2, h3⟩ := h.each k rs[k] x (List.getElem?_eq_getElem hkr) hx
  have c0 := hc 0 _ rfl
  have c1 := hc 1 _ rfl
  rw [h1] at c0
  rw [h2] at c1 h3
  exact ⟨b, off, rs[k].a, rs[k].cap, ha, hlt, c0, c1, flds_of_own h3 rfl, own_lecapR h3⟩
theorem flds_take {w : World} {a : Option Addr} {fs : List Fld} (h : Flds w a fs) (k : Nat) : Flds w a (fs.take k) := fun j e he => h j e (by
  rw [List.getElem?_take] at he
  split at he
  · exact he
  · simp at he)
def refBad (xs : List Shp) (f : Fld) : Bool := if f.kind = 8 then !hasId xs f.msg else !(f.msg == 0)
def fldC (xs : List Shp) (fs : List Fld) (k : Nat) (f : Fld) : Int :=
  if numOk f.number = false then 5 else if hasNum (fs.take k) f.number = true then 6 else if inB f.kind 1 8 = false then 7 else if packOk f = false then 8
  else if refBad xs f = true then 9 else 0
set_option maxRecDepth 100000 in
set_option maxHeartbeats 4000000 in
theorem specFieldCode_any (a : Option Addr) (cap n i k : Nat) (xs : List Shp) (x : Shp) (f : Fld) (w : World) (h : ShsL w a xs) (hl : xs.length = n) (hn : n ≤ 1048576) (hx : xs[i]? = some x) (hi : i < n) (hfl : x.flds.length ≤ 1048576) (hf : x.flds[k]? = some f) (hk : k < x.flds.length) :
    Calls Try.prog 41 #[.agg #[.slice a n cap], .int .i64 i, .int .i64 k] w fun r w' => r = .returned (.int .i64 (fldC xs x.flds k f)) ∧ Below w.heap.size w w' := by
  have HL := Lib.hid hl; clear hl
  obtain ⟨R, hR⟩ : ∃ R, fldC xs x.flds k f = R := ⟨_, rfl⟩
  rw [hR]
  have HR := Lib.hid hR; clear hR
  obtain ⟨b, off, a', cap', rfl, hbl, c0, c1, hfs, hcp⟩ := h i x hx
  obtain ⟨b2, off2, rfl, hbl2, d0, d1, d2, d3, d4⟩ := Flds.at hfs hf
  have HX := Lib.hid hx; clear hx
  have HF := Lib.hid hf; clear hf
  have HFS := Lib.hid hfs; clear hfs
  have hb1 : inB (i : Int) 0 ((n : Int) - 1) = true := by simp only [inB, decide_eq_true_eq]; omega
  have hb2' : inB (k : Int) 0 ((x.flds.length : Int) - 1) = true := by simp only [inB, decide_eq_true_eq]; omega
  have hii : (i : Int) < (n : Int) := by omega
  have hki : (k : Int) < (x.flds.length : Int) := by omega
  have hkc : (k : Int) ≤ (cap' : Int) := by omega
  have hk0 : (0 : Int) ≤ (k : Int) := by omega
  have HH := Lib.hid h.shs; clear h
  go_enter Try.func41, Try.ntmps41
  cases h1 : numOk f.number
  · have HB := Lib.hid (show (5 : Int) = R by rw [← HR.out, fldC, if_pos h1])
    go_wp2_with (first | (go_at_call 43; refine (l1In_any _ _ _ _).mono ?_; rintro r w1 ⟨rfl, rfl⟩) | (go_at_call 73; refine (specNumberOk_any _ _).mono ?_; rintro r w1 ⟨rfl, rfl⟩))
    go_ret
    exact ⟨ret_int HB.out, by ((repeat (first | (with_reducible exact Below.refl _ _) | (with_reducible assumption) | (with_reducible refine Below.alloc ?_ ?_ _) | (with_reducible refine Below.setCell ?_ ?_ _) | (with_reducible refine Below.drew ?_) | (with_reducible refine below_setRow ?_ ?_ _) | (refine Below.trans ?_ (Below.mono (by assumption) ?_)))); all_goals (first | omega | (simp; done) | (simp; omega)))⟩
  · go_wp2_with (first | (go_at_call 43; refine (l1In_any _ _ _ _).mono ?_; rintro r w1 ⟨rfl, rfl⟩) | (go_at_call 73; refine (specNumberOk_any _ _).mono ?_; rintro r w1 ⟨rfl, rfl⟩))
    have HF2 : ∀ W x0 : World, Below w.heap.size w W → Flds (World.ext W x0) (some ⟨b2, off2, none⟩) (x.flds.take k) := fun W x0 hW => Sl.keep (Sl.keep (flds_take HFS.out k) hW) (World.ext_below _ _)
    have HF3 := Lib.hid HF2; clear HF2
    have HKl := Lib.hid (show (x.flds.take k).length = k by rw [List.length_take]; omega)
    (refine wp_region_ext (by kernel_rfl) (by kernel_rfl) ?_; (repeat (go_big_quiet_step (first | (go_at_call 74; refine Calls.ext_of (l6HasNumber_any (some ⟨b2, off2, none⟩) cap' k (x.flds.take k) f.number _ (HF3.out _ _ (by ((repeat (first | (with_reducible exact Below.refl _ _) | (with_reducible assumption) | (with_reducible refine Below.alloc ?_ ?_ _) | (with_reducible refine Below.setCell ?_ ?_ _) | (with_reducible refine Below.drew ?_) | (with_reducible refine below_setRow ?_ ?_ _) | (refine Below.trans ?_ (Below.mono (by assumption) ?_)))); all_goals (first | omega | (simp; done) | (simp; omega))))) HKl.out (by omega)))))); refine wpQuiet_nil ?_; intro w2 hb2; obtain ⟨hc2, hf2⟩ := bcell hb2; have hz2 := hb2.size; (try simp only [World.size_alloc, World.size_setCell, World.size_drew] at hz2); have hy2_0 : w.heap.size < w2.heap.size := by omega)
    have hA_ := (hb2.block w.heap.size (by simp; omega)).trans (hset_alloc (hset_new (o := .cells #[.slice (some ⟨b, off, none⟩) n cap] 26) rfl))
    have hG_ := (hb2.block (w.heap.size + 1) (by simp)).trans (hset_new (o := .cells #[.int .i64 f.number, .int .i64 f.kind, .bool f.rep, .bool f.packed, .int .i64 f.msg] 45) (by simp))
    have kA := box_cells hA_; have kG := box_cells hG_; have hlG := box_lt hG_; have hlA := box_lt hA_; have HGx := Lib.hid hG_
    have hbw : Below w.heap.size w w2 := by ((repeat (first | (with_reducible exact Below.refl _ _) | (with_reducible assumption) | (with_reducible refine Below.alloc ?_ ?_ _) | (with_reducible refine Below.setCell ?_ ?_ _) | (with_reducible refine Below.drew ?_) | (with_reducible refine below_setRow ?_ ?_ _) | (refine Below.trans ?_ (Below.mono (by assumption) ?_)))); all_goals (first | omega | (simp; done) | (simp; omega)))
    clear hb2 hA_ hG_ hc2 hf2
    cases h2 : hasNum (x.flds.take k) f.number
    · cases h3 : inB f.kind 1 8
      · have HB := Lib.hid (show (7 : Int) = R by rw [← HR.out, fldC, if_neg (by rw [h1]; simp), if_neg (by rw [h2]; simp), if_pos h3])
        go_wp2_with (first | (go_at_call 75; refine (l6Kind_any _ _).mono ?_; rintro r w1 ⟨rfl, rfl⟩))
        go_ret
        exact ⟨ret_int HB.out, by ((repeat (first | (with_reducible exact Below.refl _ _) | (with_reducible assumption) | (with_reducible refine Below.alloc ?_ ?_ _) | (with_reducible refine Below.setCell ?_ ?_ _) | (with_reducible refine Below.drew ?_) | (with_reducible refine below_setRow ?_ ?_ _) | (refine Below.trans ?_ (Below.mono (by assumption) ?_)))); all_goals (first | omega | (simp; done) | (simp; omega)))⟩
      · cases h4 : packOk f
        · have HB := Lib.hid (show (8 : Int) = R by rw [← HR.out, fldC, if_neg (by rw [h1]; simp), if_neg (by rw [h2]; simp), if_neg (by rw [h3]; simp), if_pos h4])
          simp only [packOk, Bool.not_eq_false', Bool.and_eq_true, Bool.or_eq_true, Bool.not_eq_true'] at h4
          obtain ⟨h5, h6⟩ := h4
          rw [h5] at kG d3
          cases h7 : f.rep
          · rw [h7] at kG d2
            go_wp2_with (first | (go_at_call 75; refine (l6Kind_any _ _).mono ?_; rintro r w1 ⟨rfl, rfl⟩))
            go_ret
            exact ⟨ret_int HB.out, by ((repeat (first | (with_reducible exact Below.refl _ _) | (with_reducible assumption) | (with_reducible refine Below.alloc ?_ ?_ _) | (with_reducible refine Below.setCell ?_ ?_ _) | (with_reducible refine Below.drew ?_) | (with_reducible refine below_setRow ?_ ?_ _) | (refine Below.trans ?_ (Below.mono (by assumption) ?_)))); all_goals (first | omega | (simp; done) | (simp; omega)))⟩
          · have h8 : inB f.kind 1 5 = false := by rcases h6 with h6 | h6; (rw [h7] at h6; simp at h6); exact h6
            rw [h7] at kG d2
            go_wp2_with (first | (go_at_call 75; refine (l6Kind_any _ _).mono ?_; rintro r w1 ⟨rfl, rfl⟩) | (go_at_call 76; refine (specNumeric_any _ _).mono ?_; rintro r w1 ⟨rfl, rfl⟩))
            go_ret
            exact ⟨ret_int HB.out, by ((repeat (first | (with_reducible exact Below.refl _ _) | (with_reducible assumption) | (with_reducible refine Below.alloc ?_ ?_ _) | (with_reducible refine Below.setCell ?_ ?_ _) | (with_reducible refine Below.drew ?_) | (with_reducible refine below_setRow ?_ ?_ _) | (refine Below.trans ?_ (Below.mono (by assumption) ?_)))); all_goals (first | omega | (simp; done) | (simp; omega)))⟩
        · have HP : f.packed = false ∨ f.packed = true ∧ f.rep = true ∧ inB f.kind 1 5 = true := by
            simp only [packOk] at h4
            cases h5 : f.packed <;> cases h6 : f.rep <;> cases h7 : inB f.kind 1 5 <;> simp [h5, h6, h7] at h4 ⊢
          have HE : ∀ v : Int, (if refBad xs f = true then (9 : Int) else 0) = v → v = R := fun v hv => by rw [← HR.out, fldC, if_neg (by rw [h1]; simp), if_neg (by rw [h2]; simp), if_neg (by rw [h3]; simp), if_neg (by rw [h4]; simp), hv]
          have HE2 := Lib.hid HE; clear HE h4
          by_cases h8 : f.kind = 8
          · have g8 : (f.kind == 8) = true := by simp; omega
            have g8n : (f.kind != 8) = false := by simp; omega
            have HRB := Lib.hid (show refBad xs f = !hasId xs f.msg by rw [refBad, if_pos h8])
            have HTK := Lib.hid (show xs.take n = xs from List.take_of_length_le (by rw [HL.out]; omega))
            clear h8
            rcases HP with h5 | ⟨h5, h6, h7⟩
            · rw [h5] at kG d3
              go_wp2_with (first | (go_at_call 75; refine (l6Kind_any _ _).mono ?_; rintro r w1 ⟨rfl, rfl⟩))
              refine (l6HasId_any (some ⟨b, off, none⟩) cap n n xs f.msg _ (HH.out.keep hbw) HL.out hn (Nat.le_refl _)).mono ?_
              rintro r w3 ⟨rfl, hb3⟩
              rw [HTK.out]
              have hG3 := (hb3.block _ hlG).trans HGx.out
              have kG3 := box_cells hG3; clear hG3 kG kA
              cases h9 : hasId xs f.msg
              · have HB := Lib.hid (HE2.out 9 (by rw [HRB.out, h9]; rfl))
                go_wp2
                go_ret
                exact ⟨ret_int HB.out, by ((repeat (first | (with_reducible exact Below.refl _ _) | (with_reducible assumption) | (with_reducible refine Below.alloc ?_ ?_ _) | (with_reducible refine Below.setCell ?_ ?_ _) | (with_reducible refine Below.drew ?_) | (with_reducible refine below_setRow ?_ ?_ _) | (refine Below.trans ?_ (Below.mono (by assumption) ?_)))); all_goals (first | omega | (simp; done) | (simp; omega)))⟩
              · have HB := Lib.hid (HE2.out 0 (by rw [HRB.out, h9]; rfl))
                go_wp2
                go_ret
                exact ⟨ret_int HB.out, by ((repeat (first | (with_reducible exact Below.refl _ _) | (with_reducible assumption) | (with_reducible refine Below.alloc ?_ ?_ _) | (with_reducible refine Below.setCell ?_ ?_ _) | (with_reducible refine Below.drew ?_) | (with_reducible refine below_setRow ?_ ?_ _) | (refine Below.trans ?_ (Below.mono (by assumption) ?_)))); all_goals (first | omega | (simp; done) | (simp; omega)))⟩
            · rw [h5] at kG d3
              rw [h6] at kG d2
              go_wp2_with (first | (go_at_call 75; refine (l6Kind_any _ _).mono ?_; rintro r w1 ⟨rfl, rfl⟩) | (go_at_call 76; refine (specNumeric_any _ _).mono ?_; rintro r w1 ⟨rfl, rfl⟩))
              refine (l6HasId_any (some ⟨b, off, none⟩) cap n n xs f.msg _ (HH.out.keep hbw) HL.out hn (Nat.le_refl _)).mono ?_
              rintro r w3 ⟨rfl, hb3⟩
              rw [HTK.out]
              have hG3 := (hb3.block _ hlG).trans HGx.out
              have kG3 := box_cells hG3; clear hG3 kG kA
              cases h9 : hasId xs f.msg
              · have HB := Lib.hid (HE2.out 9 (by rw [HRB.out, h9]; rfl))
                go_wp2
                go_ret
                exact ⟨ret_int HB.out, by ((repeat (first | (with_reducible exact Below.refl _ _) | (with_reducible assumption) | (with_reducible refine Below.alloc ?_ ?_ _) | (with_reducible refine Below.setCell ?_ ?_ _) | (with_reducible refine Below.drew ?_) | (with_reducible refine below_setRow ?_ ?_ _) | (refine Below.trans ?_ (Below.mono (by assumption) ?_)))); all_goals (first | omega | (simp; done) | (simp; omega)))⟩
              · have HB := Lib.hid (HE2.out 0 (by rw [HRB.out, h9]; rfl))
                go_wp2
                go_ret
                exact ⟨ret_int HB.out, by ((repeat (first | (with_reducible exact Below.refl _ _) | (with_reducible assumption) | (with_reducible refine Below.alloc ?_ ?_ _) | (with_reducible refine Below.setCell ?_ ?_ _) | (with_reducible refine Below.drew ?_) | (with_reducible refine below_setRow ?_ ?_ _) | (refine Below.trans ?_ (Below.mono (by assumption) ?_)))); all_goals (first | omega | (simp; done) | (simp; omega)))⟩
          · have g8 : (f.kind == 8) = false := by simp; omega
            have g8n : (f.kind != 8) = true := by simp; omega
            have HRB := Lib.hid (show refBad xs f = !(f.msg == 0) by rw [refBad, if_neg h8])
            clear h8
            rcases HP with h5 | ⟨h5, h6, h7⟩
            · rw [h5] at kG d3
              by_cases h9 : f.msg = 0
              · have g9 : (f.msg == 0) = true := by simp; omega
                have g9n : (f.msg != 0) = false := by simp; omega
                have HB := Lib.hid (HE2.out 0 (by rw [HRB.out, g9]; rfl))
                clear h9
                go_wp2_with (first | (go_at_call 75; refine (l6Kind_any _ _).mono ?_; rintro r w1 ⟨rfl, rfl⟩))
                go_ret
                exact ⟨ret_int HB.out, by ((repeat (first | (with_reducible exact Below.refl _ _) | (with_reducible assumption) | (with_reducible refine Below.alloc ?_ ?_ _) | (with_reducible refine Below.setCell ?_ ?_ _) | (with_reducible refine Below.drew ?_) | (with_reducible refine below_setRow ?_ ?_ _) | (refine Below.trans ?_ (Below.mono (by assumption) ?_)))); all_goals (first | omega | (simp; done) | (simp; omega)))⟩
              · have g9 : (f.msg == 0) = false := by simp; omega
                have g9n : (f.msg != 0) = true := by simp; omega
                have HB := Lib.hid (HE2.out 9 (by rw [HRB.out, g9]; rfl))
                clear h9
                go_wp2_with (first | (go_at_call 75; refine (l6Kind_any _ _).mono ?_; rintro r w1 ⟨rfl, rfl⟩))
                go_ret
                exact ⟨ret_int HB.out, by ((repeat (first | (with_reducible exact Below.refl _ _) | (with_reducible assumption) | (with_reducible refine Below.alloc ?_ ?_ _) | (with_reducible refine Below.setCell ?_ ?_ _) | (with_reducible refine Below.drew ?_) | (with_reducible refine below_setRow ?_ ?_ _) | (refine Below.trans ?_ (Below.mono (by assumption) ?_)))); all_goals (first | omega | (simp; done) | (simp; omega)))⟩
            · rw [h5] at kG d3
              rw [h6] at kG d2
              by_cases h9 : f.msg = 0
              · have g9 : (f.msg == 0) = true := by simp; omega
                have g9n : (f.msg != 0) = false := by simp; omega
                have HB := Lib.hid (HE2.out 0 (by rw [HRB.out, g9]; rfl))
                clear h9
                go_wp2_with (first | (go_at_call 75; refine (l6Kind_any _ _).mono ?_; rintro r w1 ⟨rfl, rfl⟩) | (go_at_call 76; refine (specNumeric_any _ _).mono ?_; rintro r w1 ⟨rfl, rfl⟩))
                go_ret
                exact ⟨ret_int HB.out, by ((repeat (first | (with_reducible exact Below.refl _ _) | (with_reducible assumption) | (with_reducible refine Below.alloc ?_ ?_ _) | (with_reducible refine Below.setCell ?_ ?_ _) | (with_reducible refine Below.drew ?_) | (with_reducible refine below_setRow ?_ ?_ _) | (refine Below.trans ?_ (Below.mono (by assumption) ?_)))); all_goals (first | omega | (simp; done) | (simp; omega)))⟩
              · have g9 : (f.msg == 0) = false := by simp; omega
                have g9n : (f.msg != 0) = true := by simp; omega
                have HB := Lib.hid (HE2.out 9 (by rw [HRB.out, g9]; rfl))
                clear h9
                go_wp2_with (first | (go_at_call 75; refine (l6Kind_any _ _).mono ?_; rintro r w1 ⟨rfl, rfl⟩) | (go_at_call 76; refine (specNumeric_any _ _).mono ?_; rintro r w1 ⟨rfl, rfl⟩))
                go_ret
                exact ⟨ret_int HB.out, by ((repeat (first | (with_reducible exact Below.refl _ _) | (with_reducible assumption) | (with_reducible refine Below.alloc ?_ ?_ _) | (with_reducible refine Below.setCell ?_ ?_ _) | (with_reducible refine Below.drew ?_) | (with_reducible refine below_setRow ?_ ?_ _) | (refine Below.trans ?_ (Below.mono (by assumption) ?_)))); all_goals (first | omega | (simp; done) | (simp; omega)))⟩
    · have HB := Lib.hid (show (6 : Int) = R by rw [← HR.out, fldC, if_neg (by rw [h1]; simp), if_pos h2])
      go_wp2
      go_ret
      exact ⟨ret_int HB.out, by ((repeat (first | (with_reducible exact Below.refl _ _) | (with_reducible assumption) | (with_reducible refine Below.alloc ?_ ?_ _) | (with_reducible refine Below.setCell ?_ ?_ _) | (with_reducible refine Below.drew ?_) | (with_reducible refine below_setRow ?_ ?_ _) | (refine Below.trans ?_ (Below.mono (by assumption) ?_)))); all_goals (first | omega | (simp; done) | (simp; omega)))⟩
def firstF (xs : List Shp) (i : Nat) (fs : List Fld) : Nat → List Fld → Option (Int × Int × Int)
  | _, [] => none
  | k, f :: gs => if fldC xs fs k f = 0 then firstF xs i fs (k + 1) gs else some (fldC xs fs k f, i, k)
def firstM (xs : List Shp) : Nat → List Shp → Int × Int × Int
  | _, [] => (0, 0, 0)
  | i, x :: ys => if msgC xs i x = 0 then (firstF xs i x.flds 0 x.flds).getD (firstM xs (i + 1) ys) else (msgC xs i x, i, -1)
def firstV (xs : List Shp) : Int × Int × Int := if 6 < xs.length then (1, 6, -1) else firstM xs 0 xs
def vioV (v : Int × Int × Int) : Value := .agg #[.int .i64 v.1, .int .i64 v.2.1, .int .i64 v.2.2]
section
variable {xs : List Shp} {i k : Nat} {x : Shp} {f : Fld} {R : Int × Int × Int} {O : Option (Int × Int × Int)}
theorem fM_bad (h : firstM xs i (xs.drop i) = R) (hx : xs[i]? = some x) (hb : ¬ msgC xs i x = 0) : (msgC xs i x, (i : Int), (-1 : Int)) = R := by rw [drop_cons hx, firstM, if_neg hb] at h; exact h
theorem fM_ok (h : firstM xs i (xs.drop i) = R) (hx : xs[i]? = some x) (hb : msgC xs i x = 0) : (firstF xs i x.flds 0 x.flds).getD (firstM xs (i + 1) (xs.drop (i + 1))) = R := by rw [drop_cons hx, firstM, if_pos hb] at h; exact h
theorem fM_end (h : firstM xs i (xs.drop i) = R) (hx : xs.length ≤ i) : ((0 : Int), (0 : Int), (0 : Int)) = R := by rw [List.drop_of_length_le hx, firstM] at h; exact h
theorem fF_bad {fs : List Fld} (h : firstF xs i fs k (fs.drop k) = O) (hf : fs[k]? = some f) (hb : ¬ fldC xs fs k f = 0) : some (fldC xs fs k f, (i : Int), (k : Int)) = O := by rw [drop_cons hf, firstF, if_neg hb] at h; exact h
theorem fF_ok {fs : List Fld} (h : firstF xs i fs k (fs.drop k) = O) (hf : fs[k]? = some f) (hb : fldC xs fs k f = 0) : firstF xs i fs (k + 1) (fs.drop (k + 1)) = O := by rw [drop_cons hf, firstF, if_pos hb] at h; exact h
theorem fF_end {fs : List Fld} (h : firstF xs i fs k (fs.drop k) = O) (hf : fs.length ≤ k) : none = O := by rw [List.drop_of_length_le hf, firstF] at h; exact h
end
end Go.Proofs.Ytbpilecgnfnndaa
namespace Go.Proofs.Ytbpilecgnfnndaa
set_option linter.unusedSimpArgs false
set_option linter.unusedVariables false
open Go.ChangeShapes Go.WideShapes Go.ChangeAt Go.RowKit Go.BigFrame
theorem vio_res {F : Func} (hF : F.results = #[.cell 2 32]) {tm : Array Value} {B : Nat} {W : World} {x y z : Int} (t1 : tm.getD 2 undef = .pointer (some ⟨B, 0, none⟩)) (h : W.heap[B]? = some (.cells #[.int .i64 x, .int .i64 y, .int .i64 z] 32 (0, 0))) :
    (results F tm).run Try.prog W = .ok (.agg #[.int .i64 x, .int .i64 y, .int .i64 z]) W :=
  results_cell hF t1 (run_loadVar_mid W B 0 32 [.int .i64 x, .int .i64 y, .int .i64 z] _ (range_of_box h) Try.underlying32 rfl (by kernel_rfl))
set_option maxRecDepth 100000 in
set_option maxHeartbeats 4000000 in
theorem specFirst_any (a : Option Addr) (cap n : Nat) (xs : List Shp) (w : World) (h : ShsL w a xs) (hl : xs.length = n) (hn : n ≤ 1048576) (hm : fldSum xs ≤ 1048576) :
    Calls Try.prog 9 #[.agg #[.slice a n cap]] w fun r w' => r = .returned (vioV (firstV xs)) ∧ Below w.heap.size w w' := by
  have HL := Lib.hid hl; clear hl
  have HH := Lib.hid h; clear h
  obtain ⟨R, hR⟩ : ∃ R, firstV xs = R := ⟨_, rfl⟩
  rw [hR]
  go_enter Try.func9, Try.ntmps9
  by_cases h6 : 6 < n
  · have hR1 : R = (1, 6, -1) := by rw [← hR, firstV, if_pos (by rw [HL.out]; exact h6)]
    subst hR1
    have h6' : (6 : Int) < (n : Int) := by omega
    go_wp2
    refine bodyPost_ret (vio_res (B := w.heap.size + 1) (x := 1) (y := 6) (z := -1) Try.results9 rfl ?_) rfl ⟨rfl, by ((repeat (first | (with_reducible exact Below.refl _ _) | (with_reducible assumption) | (with_reducible refine Below.alloc ?_ ?_ _) | (with_reducible refine Below.setCell ?_ ?_ _) | (with_reducible refine Below.drew ?_) | (with_reducible refine below_setRow ?_ ?_ _) | (refine Below.trans ?_ (Below.mono (by assumption) ?_)))); all_goals (first | omega | (simp; done) | (simp; omega)))⟩
    exact hset_new (by simp)
  · have HR := Lib.hid (show firstM xs 0 (xs.drop 0) = R by rw [← hR, firstV, if_neg (by rw [HL.out]; exact h6)]; rfl)
    have h6' : decide ((6 : Int) < (n : Int)) = false := decide_eq_false (by omega)
    clear hR
    go_wp2
    go_loopw [3] (fun i wr => ∃ k : Nat, k ≤ n ∧ i = .int .i64 k ∧ Hid (firstM xs k (xs.drop k) = R) ∧ wr.heap[w.heap.size]? = some (.cells #[.slice a n cap] 26 (0, 0)) ∧ wr.heap[w.heap.size + 1]? = some (.cells #[.int .i64 0, .int .i64 0, .int .i64 0] 32 (0, 0)) ∧ Below w.heap.size w wr) (fun i _ => n - (intOf i).toNat)
    case atStart => exact ⟨0, Nat.zero_le _, rfl, HR, hset_alloc (hset_new rfl), hset_new (by simp), by ((repeat (first | (with_reducible exact Below.refl _ _) | (with_reducible assumption) | (with_reducible refine Below.alloc ?_ ?_ _) | (with_reducible refine Below.setCell ?_ ?_ _) | (with_reducible refine Below.drew ?_) | (with_reducible refine below_setRow ?_ ?_ _) | (refine Below.trans ?_ (Below.mono (by assumption) ?_)))); all_goals (first | omega | (simp; done) | (simp; omega)))⟩
    case round =>
      obtain ⟨k, hk, rfl, HK, hA, hV, hb⟩ := hrel
      have kA := box_cells hA 0; have kV := box_cells hV; have fV := box_frozen hV; have hlA := box_lt hA; have hlV := box_lt hV
      simp only [List.getElem?_toArray, List.getElem?_cons_zero] at kA
      have HA := Lib.hid hA; have HV := Lib.hid hV; clear hA hV
      by_cases hlt : k < n
      · obtain ⟨x, hx, _⟩ := at_lt (xs := xs) (k := k) (by rw [HL.out]; exact hlt)
        have hfl : x.flds.length ≤ 1048576 := by have := fldSum_ge hx; omega
        have hsl := HH.out.keep hb
        obtain ⟨b, off, a', cap', rfl, hbl, c0, c1, hfs, hcp⟩ := hsl k x hx
        have HX := Lib.hid hx; clear hx
        have HS := Lib.hid hsl; clear hsl hfs
        go_wp2_with fail
        refine (specMsgCode_any (some ⟨b, off, none⟩) cap n k xs x wr HS.out.shs HL.out hn HX.out hlt hfl).mono ?_
        rintro r w1 ⟨rfl, hb1⟩
        have hA1 := (hb1.block _ hlA).trans HA.out
        have hV1 := (hb1.block _ hlV).trans HV.out
        have hbw1 : Below w.heap.size w w1 := hb.trans (hb1.mono hb.size)
        have c1_ := (hb1.cell (p := ⟨b, off + k * 2 + 1, none⟩) hbl).trans c1
        have hbl1 := Nat.lt_of_lt_of_le hbl hb1.size
        have HS1 := Lib.hid (HS.out.keep hb1)
        clear kA kV fV hlA hlV c0 c1 hb hb1 HS HA HV hbl
        have c1 := c1_; clear c1_
        have kA := box_cells hA1 0; have kV := box_cells hV1; have fV := box_frozen hV1; have hlA := box_lt hA1; have hlV := box_lt hV1
        simp only [List.getElem?_toArray, List.getElem?_cons_zero] at kA
        have HA := Lib.hid hA1; have HV := Lib.hid hV1; clear hA1 hV1
        by_cases hz : msgC xs k x = 0
        · obtain ⟨O, hO⟩ : ∃ O, firstF xs k x.flds 0 x.flds = O := ⟨_, rfl⟩
          have HM := fM_ok HK.out HX.out hz
          rw [hO] at HM
          have HMx := Lib.hid HM; clear HM
          have HO := Lib.hid (show firstF xs k x.flds 0 (x.flds.drop 0) = O from hO); clear hO
          have hz' : (msgC xs k x != 0) = false := by simp [hz]
          rw [hz]
          clear hz hz'
          go_wp2
          obtain ⟨wo, hwo⟩ : ∃ wo : World, wo = w1 := ⟨_, rfl⟩
          rw [← hwo] at HA HV hbw1 HS1 c1 hbl1 kA kV fV hlA hlV ⊢
          clear hwo
          go_loopw [5] (fun j wi => ∃ q : Nat, q ≤ x.flds.length ∧ j = .int .i64 q ∧ Hid (firstF xs k x.flds q (x.flds.drop q) = O) ∧ Below wo.heap.size wo wi) (fun j _ => x.flds.length - (intOf j).toNat)
          case atStart => exact ⟨0, Nat.zero_le _, rfl, HO, Below.refl _ _⟩
          case round =>
            obtain ⟨q, hq, rfl, HQ, hbi⟩ := hrel
            obtain ⟨wi, hwi⟩ : ∃ wi : World, wi = wr := ⟨_, rfl⟩
            rw [← hwi] at hbi ⊢
            clear hwi
            have hAi := (hbi.block _ hlA).trans HA.out
            have hVi := (hbi.block _ hlV).trans HV.out
            have hbwi : Below w.heap.size w wi := hbw1.trans (hbi.mono hbw1.size)
            have c1i := (hbi.cell (p := ⟨b, off + k * 2 + 1, none⟩) hbl1).trans c1
            have HSi := Lib.hid (HS1.out.keep hbi)
            clear kA kV fV c1
            have kA := box_cells hAi 0; have kV := box_cells hVi; have fV := box_frozen hVi; have hlAi := box_lt hAi; have hlVi := box_lt hVi
            simp only [List.getElem?_toArray, List.getElem?_cons_zero] at kA
            have HVi := Lib.hid hVi; clear hVi hAi
            by_cases hlq : q < x.flds.length
            · obtain ⟨f, hf, _⟩ := at_lt (xs := x.flds) (k := q) hlq
              have HF := Lib.hid hf; clear hf
              go_wp2_with fail
              refine (specFieldCode_any (some ⟨b, off, none⟩) cap n k q xs x f wi HSi.out HL.out hn HX.out hlt hfl HF.out hlq).mono ?_
              rintro r w3 ⟨rfl, hb3⟩
              have hV3 := (hb3.block _ hlVi).trans HVi.out
              have hbw3 : Below w.heap.size w w3 := hbwi.trans (hb3.mono hbwi.size)
              have kV3 := box_cells hV3; have fV3 := box_frozen hV3; have hlV3 := box_lt hV3
              have HV3 := Lib.hid hV3; clear hV3 kV fV
              by_cases hz : fldC xs x.flds q f = 0
              · rw [hz]
                have HQ2 := Lib.hid (fF_ok HQ.out HF.out hz)
                clear hz
                go_wp2
                go_roundw
                case rel => exact ⟨q + 1, by omega, by go_num, HQ2, hbi.trans (hb3.mono hbi.size)⟩
                case measure => simp [intOf]; omega
              · have hO2 := fF_bad HQ.out HF.out hz
                have hR2 : (fldC xs x.flds q f, (k : Int), (q : Int)) = R := by have := HMx.out; rw [← hO2] at this; exact this
                have HR2 := Lib.hid hR2; clear hR2 hO2
                have gz : (fldC xs x.flds q f == 0) = false := by simp [hz]
                have gzn : (fldC xs x.flds q f != 0) = true := by simp [hz]
                clear hz
                go_wp2
                refine bodyPost_ret (vio_res (B := w.heap.size + 1) (x := fldC xs x.flds q f) (y := k) (z := q) Try.results9 rfl ?_) rfl ⟨?_, by ((repeat (first | (with_reducible exact Below.refl _ _) | (with_reducible assumption) | (with_reducible refine Below.alloc ?_ ?_ _) | (with_reducible refine Below.setCell ?_ ?_ _) | (with_reducible refine Below.drew ?_) | (with_reducible refine below_setRow ?_ ?_ _) | (refine Below.trans ?_ (Below.mono (by assumption) ?_)))); all_goals (first | omega | (simp; done) | (simp; omega)))⟩
                · apply hset_eq (hset_set (hset_set (hset_set HV3.out))); simp only [List.setIfInBounds_toArray, List.set_cons_zero, List.set_cons_succ]
                · rw [← HR2.out]; rfl
            · have hO2 := fF_end HQ.out (by omega)
              have HK2 := Lib.hid (show firstM xs (k + 1) (xs.drop (k + 1)) = R by have := HMx.out; rw [← hO2] at this; exact this)
              clear hO2
              go_wp2
              go_roundw
              case rel => exact ⟨k + 1, by omega, by go_num, HK2, (hbi.block _ hlA).trans HA.out, HVi.out, hbwi⟩
              case measure => simp [intOf]; omega
        · have hR2 := fM_bad HK.out HX.out hz
          have HR2 := Lib.hid hR2; clear hR2
          have gz : (msgC xs k x == 0) = false := by simp [hz]
          have gzn : (msgC xs k x != 0) = true := by simp [hz]
          clear hz
          go_wp2
          refine bodyPost_ret (vio_res (B := w.heap.size + 1) (x := msgC xs k x) (y := k) (z := -1) Try.results9 rfl ?_) rfl ⟨?_, by ((repeat (first | (with_reducible exact Below.refl _ _) | (with_reducible assumption) | (with_reducible refine Below.alloc ?_ ?_ _) | (with_reducible refine Below.setCell ?_ ?_ _) | (with_reducible refine Below.drew ?_) | (with_reducible refine below_setRow ?_ ?_ _) | (refine Below.trans ?_ (Below.mono (by assumption) ?_)))); all_goals (first | omega | (simp; done) | (simp; omega)))⟩
          · apply hset_eq (hset_set (hset_set (hset_set HV.out))); simp only [List.setIfInBounds_toArray, List.set_cons_zero, List.set_cons_succ]
          · rw [← HR2.out]; rfl
      · obtain rfl : k = n := by omega
        have hR2 := fM_end HK.out (by rw [HL.out]; omega)
        have HR2 := Lib.hid hR2; clear hR2
        go_wp2
        refine bodyPost_ret (vio_res (B := w.heap.size + 1) (x := 0) (y := 0) (z := 0) Try.results9 rfl ?_) rfl ⟨?_, by ((repeat (first | (with_reducible exact Below.refl _ _) | (with_reducible assumption) | (with_reducible refine Below.alloc ?_ ?_ _) | (with_reducible refine Below.setCell ?_ ?_ _) | (with_reducible refine Below.drew ?_) | (with_reducible refine below_setRow ?_ ?_ _) | (refine Below.trans ?_ (Below.mono (by assumption) ?_)))); all_goals (first | omega | (simp; done) | (simp; omega)))⟩
        · apply hset_eq (hset_set (hset_set (hset_set HV.out))); simp only [List.setIfInBounds_toArray, List.set_cons_zero, List.set_cons_succ]
        · rw [← HR2.out]; rfl
end Go.Proofs.Ytbpilecgnfnndaa
namespace Go.Proofs.Ytbpilecgnfnndaa
set_option linter.unusedSimpArgs false
set_option linter.unusedVariables false
def hasI (ids : List Int) (i : Int) : Bool := ids.any fun j => j == i
structure FG (ids : List Int) (f : Fld) : Prop where
  num : numOk f.number = true
  kind : inB f.kind 1 8 = true
  pack : packOk f = true
  ref : if f.kind = 8 then hasI ids f.msg = true else f.msg = 0
def Dist (fs : List Fld) : Prop := ∀ (k : Nat) (f : Fld), fs[k]? = some f → hasNum (fs.take k) f.number = false
theorem Dist.nil : Dist [] := fun k f h => by simp at h
theorem Dist.snoc {fs : List Fld} {f : Fld} (h : Dist fs) (hf : hasNum fs f.number = false) : Dist (fs ++ [f]) := by
  intro k g hg
  rcases Nat.lt_trichotomy k fs.length with hk | hk | hk
  · rw [List.getElem?_append_left hk] at hg
    rw [List.take_append_of_le_length (by omega)]
    exact h k g hg
  · subst hk
    rw [List.getElem?_append_right (Nat.le_refl _)] at hg
    simp at hg; subst hg
    rw [List.take_left]
    exact hf
  · rw [List.getElem?_eq_none (by simp; omega)] at hg; simp at hg
structure RawGood (ids : List Int) (i k : Nat) (xs : List Shp) : Prop where
  ids_ : xs.map Shp.id = ids
  len : ∀ (j : Nat) (x : Shp), xs[j]? = some x → x.flds.length ≤ if j < i then 5 else if j = i then k else 0
  good : ∀ x ∈ xs, Dist x.flds ∧ ∀ f ∈ x.flds, FG ids f
theorem RawGood.put {ids : List Int} {i k : Nat} {xs : List Shp} {x : Shp} {f : Fld} (h : RawGood ids i k xs) (hx : xs[i]? = some x) (hf : FG ids f) (hn : hasNum x.flds f.number = false) :
    RawGood ids i (k + 1) (xs.set i ⟨x.id, x.flds ++ [f]⟩) := by
  obtain ⟨hi, hxe⟩ := List.getElem?_eq_some_iff.1 hx
  refine ⟨?_, ?_, ?_⟩
  · rw [List.map_set, ← h.ids_]
    apply List.ext_getElem? 
    intro j
    by_cases hj : i = j
    · subst hj
      rw [List.getElem?_set_self (by simpa using hi), List.getElem?_map, hx]; rfl
    · rw [List.getElem?_set_ne hj]
  · intro j y hy
    by_cases hj : i = j
    · subst hj
      rw [List.getElem?_set_self hi] at hy
      simp at hy; subst hy
      have := h.len i x hx
      simp at this ⊢
      omega
    · rw [List.getElem?_set_ne hj] at hy
      have := h.len j y hy
      split at this <;> (try split at this) <;> (try split) <;> (try split) <;> omega
  · intro y hy
    rcases List.mem_or_eq_of_mem_set hy with h1 | rfl
    · exact h.good y h1
    · obtain ⟨g1, g2⟩ := h.good x (List.mem_of_getElem? hx)
      refine ⟨g1.snoc hn, fun g hg => ?_⟩
      rcases List.mem_append.1 hg with h2 | h2
      · exact g2 g h2
      · simp at h2; subst h2; exact hf
theorem firstF_none {xs : List Shp} {i : Nat} {fs : List Fld} (h : ∀ (k : Nat) (f : Fld), fs[k]? = some f → fldC xs fs k f = 0) : ∀ (k : Nat), firstF xs i fs k (fs.drop k) = none := by
  intro k
  by_cases hk : k < fs.length
  · have hf : fs[k]? = some fs[k] := List.getElem?_eq_getElem hk
    rw [drop_cons hf, firstF, if_pos (h k _ hf)]
    exact firstF_none h (k + 1)
  · rw [List.drop_of_length_le (by omega), firstF]
termination_by k => fs.length - k
theorem firstM_zero {xs : List Shp} (h : ∀ (i : Nat) (x : Shp), xs[i]? = some x → msgC xs i x = 0 ∧ ∀ (k : Nat) (f : Fld), x.flds[k]? = some f → fldC xs x.flds k f = 0) : ∀ (i : Nat), firstM xs i (xs.drop i) = (0, 0, 0) := by
  intro i
  by_cases hi : i < xs.length
  · have hx : xs[i]? = some xs[i] := List.getElem?_eq_getElem hi
    obtain ⟨h1, h2⟩ := h i _ hx
    rw [drop_cons hx, firstM, if_pos h1]
    have := firstF_none (xs := xs) (i := i) h2 0
    rw [List.drop_zero] at this
    rw [this]
    exact firstM_zero h (i + 1)
  · rw [List.drop_of_length_le (by omega), firstM]
termination_by i => xs.length - i
end Go.Proofs.Ytbpilecgnfnndaa
namespace Go.Proofs.Ytbpilecgnfnndaa
set_option linter.unusedSimpArgs false
set_option linter.unusedVariables false
open Go.ChangeShapes Go.WideShapes Go.ChangeAt Go.RowKit Go.BigFrame
def rankS (xs : List Shp) (id : Int) : Nat := (xs.filter fun x => decide (x.id < id)).length
theorem filter_snoc {α : Type} {p : α → Bool} {xs : List α} {k : Nat} {e : α} (he : xs[k]? = some e) : ((xs.take (k + 1)).filter p).length = ((xs.take k).filter p).length + if p e = true then 1 else 0 := by
  rw [List.take_add_one, he]
  simp only [Option.toList_some, List.filter_append, List.length_append]
  congr 1
  by_cases h : p e = true <;> simp [h]
set_option maxHeartbeats 2000000 in
theorem l8Rank_any (a : Option Addr) (cap n : Nat) (xs : List Shp) (x : Int) (w : World) (h : Shs w a xs) (hl : xs.length = n) (hn : n ≤ 1048576) :
    Calls Try.prog 54 #[.agg #[.slice a n cap], .int .i64 x] w fun r w' => r = .returned (.int .i64 (rankS xs x : Nat)) ∧ Below w.heap.size w w' := by
  have HL := Lib.hid hl; clear hl
  obtain ⟨R, hR⟩ : ∃ R, rankS xs x = R := ⟨_, rfl⟩
  rw [hR]
  have HR := Lib.hid hR; clear hR
  go_enter Try.func54, Try.ntmps54
  go_wp2
  have hh : Shs (w.alloc (.cells #[.slice a n cap] 26)) a xs := h.keep (by ((repeat (first | (with_reducible exact Below.refl _ _) | (with_reducible assumption) | (with_reducible refine Below.alloc ?_ ?_ _) | (with_reducible refine Below.setCell ?_ ?_ _) | (with_reducible refine Below.drew ?_) | (with_reducible refine below_setRow ?_ ?_ _) | (refine Below.trans ?_ (Below.mono (by assumption) ?_)))); all_goals (first | omega | (simp; done) | (simp; omega))))
  have HH := Lib.hid hh; clear hh
  go_loop [5, 6] (fun t i => ∃ k c : Nat, k ≤ n ∧ c ≤ k ∧ i = .int .i64 k ∧ t = .int .i64 c ∧ Hid (((xs.take k).filter (fun y => decide (y.id < x))).length = c)) (fun _ i => n - (intOf i).toNat)
  case atStart => exact ⟨0, 0, Nat.zero_le _, Nat.zero_le _, rfl, rfl, Lib.hid (by simp)⟩
  case round =>
    obtain ⟨k, c, hk, hck, rfl, rfl, HK⟩ := hrel
    by_cases hlt : k < n
    · obtain ⟨f, hf, _⟩ := at_lt (xs := xs) (k := k) (by rw [HL.out]; omega)
      obtain ⟨b, off, a', cap', rfl, hbl, d0, -⟩ := Shs.at HH.out hf
      have HF := Lib.hid hf; clear hf
      by_cases hq : f.id < x
      · have HK2 := Lib.hid (show ((xs.take (k + 1)).filter (fun y => decide (y.id < x))).length = c + 1 by rw [filter_snoc HF.out, HK.out, if_pos (by simpa using hq)])
        go_wp2
        go_round
        case rel => exact ⟨k + 1, c + 1, by omega, by omega, by go_num, by go_num, HK2⟩
        case measure => simp [intOf]; omega
      · have HK2 := Lib.hid (show ((xs.take (k + 1)).filter (fun y => decide (y.id < x))).length = c by rw [filter_snoc HF.out, HK.out, if_neg (by simpa using hq)]; rfl)
        have hq' : decide (f.id < x) = false := decide_eq_false hq
        clear hq
        go_wp2
        go_round
        case rel => exact ⟨k + 1, c, by omega, by omega, by go_num, rfl, HK2⟩
        case measure => simp [intOf]; omega
    · have HB := Lib.hid (show c = R by rw [← HR.out, rankS, ← HK.out, List.take_of_length_le (by rw [HL.out]; omega)])
      go_wp2
      go_ret
      have hcr := HB.out
      subst hcr
      exact ⟨rfl, by ((repeat (first | (with_reducible exact Below.refl _ _) | (with_reducible assumption) | (with_reducible refine Below.alloc ?_ ?_ _) | (with_reducible refine Below.setCell ?_ ?_ _) | (with_reducible refine Below.drew ?_) | (with_reducible refine below_setRow ?_ ?_ _) | (refine Below.trans ?_ (Below.mono (by assumption) ?_)))); all_goals (first | omega | (simp; done) | (simp; omega)))⟩
def putF : List Fld → Fld → List Fld
  | [], f => [f]
  | g :: gs, f => if g.number < f.number then g :: putF gs f else f :: g :: gs
theorem putF_len : ∀ (fs : List Fld) (f : Fld), (putF fs f).length = fs.length + 1
  | [], f => rfl
  | g :: gs, f => by unfold putF; split <;> simp [putF_len gs f]
theorem pf_step {fs : List Fld} {f g : Fld} {k : Nat} {R : List Fld} (h : fs.take k ++ putF (fs.drop k) f = R) (hg : fs[k]? = some g) (hq : g.number < f.number) : fs.take (k + 1) ++ putF (fs.drop (k + 1)) f = R := by
  rw [drop_cons hg, putF, if_pos hq] at h
  rw [List.take_add_one, hg, ← h]; simp
theorem pf_stop {fs : List Fld} {f g : Fld} {k : Nat} {R : List Fld} (h : fs.take k ++ putF (fs.drop k) f = R) (hg : fs[k]? = some g) (hq : ¬ g.number < f.number) : fs.take k ++ f :: fs.drop k = R := by
  rw [drop_cons hg, putF, if_neg hq, ← drop_cons hg] at h; exact h
theorem pf_end {fs : List Fld} {f : Fld} {k : Nat} {R : List Fld} (h : fs.take k ++ putF (fs.drop k) f = R) (hk : fs.length ≤ k) : fs.take k ++ f :: fs.drop k = R := by
  rw [List.drop_of_length_le hk, putF] at h; rw [List.drop_of_length_le hk]; exact h
theorem info_Fld5 : (Try.prog.info? 47).map (fun i => (i.zero, i.size, i.bytes)) = some (some (.agg #[.int .i64 0, .int .i64 0, .bool false, .bool false, .int .i64 0]), 5, 32) := by kernel_rfl
theorem takeF_pre {fs : List Fld} {m j : Nat} {u : Value} (h : ((fs.take m).flatMap Fld.cs)[j]? = some u) : (fs.flatMap Fld.cs)[j]? = some u := by
  have h0 := pre_at (more := (fs.drop m).flatMap Fld.cs) h
  rwa [← List.flatMap_append, List.take_append_drop] at h0
theorem dropF_at {fs : List Fld} {w : World} {b m : Nat} (h : ∀ (j : Nat) (u : Value), (fs.flatMap Fld.cs)[j]? = some u → w.cell? ((⟨b, 0, none⟩ : Addr).add j) = some u) (hm : m ≤ fs.length) {j : Nat} {u : Value} (hj : ((fs.drop m).flatMap Fld.cs)[j]? = some u) : w.cell? ((⟨b, m * 5, none⟩ : Addr).add j) = some u := by
  have h1 := h (m * 5 + j) u (by
    have e : fs.flatMap Fld.cs = (fs.take m).flatMap Fld.cs ++ (fs.drop m).flatMap Fld.cs := by rw [← List.flatMap_append, List.take_append_drop]
    rw [e, List.getElem?_append_right (by rw [flatMap_len fld_len, List.length_take]; omega), flatMap_len fld_len, List.length_take, Nat.min_eq_left hm, Nat.add_sub_cancel_left]; exact hj)
  have e2 : (⟨b, 0, none⟩ : Addr).add (m * 5 + j) = (⟨b, m * 5, none⟩ : Addr).add j := by simp only [Addr.add]; split <;> split <;> simp_all <;> omega
  rwa [e2] at h1
theorem own_mono {w : World} {base base' n size : Nat} {t : TypeId} {v : Value} {L : List Value} (h : w.ownsRow base t size v n L) (hb : base' ≤ base) : w.ownsRow base' t size v n L :=
  ⟨h.1, h.2.imp id fun ⟨g, cap, cur, e, hg, r⟩ => ⟨g, cap, cur, e, Nat.le_trans hb hg, r⟩⟩
theorem range_five {w : World} {B : Nat} {v0 v1 v2 v3 v4 : Value} (h : Cells [(⟨B, 0, none⟩, v0), (⟨B, 1, none⟩, v1), (⟨B, 2, none⟩, v2), (⟨B, 3, none⟩, v3), (⟨B, 4, none⟩, v4)] w) : w.rangeAt B 0 [v0, v1, v2, v3, v4] := by
  simp only [cells_cons, cells_nil, and_true] at h
  obtain ⟨h0, h1, h2, h3, h4⟩ := h
  intro j u hj
  rw [Nat.zero_add]
  match j, hj with
  | 0, hj => simp at hj; subst hj; exact h0
  | 1, hj => simp at hj; subst hj; exact h1
  | 2, hj => simp at hj; subst hj; exact h2
  | 3, hj => simp at hj; subst hj; exact h3
  | 4, hj => simp at hj; subst hj; exact h4
  | j + 5, hj => simp at hj
set_option maxRecDepth 100000 in
set_option maxHeartbeats 4000000 in
theorem l8Put_any (b cap n : Nat) (fs : List Fld) (f : Fld) (w : World) (h : Flds w (some ⟨b, 0, none⟩) fs) (hl : fs.length = n) (hn : n ≤ 1000) (hcap : n ≤ cap) :
    Calls Try.prog 55 #[.slice (some ⟨b, 0, none⟩) n cap, f.val] w fun r w' => ∃ a' cap', r = .returned (.slice a' (n + 1) cap') ∧ w'.ownsRow w.heap.size 47 5 (.slice a' (n + 1) cap') (n + 1) ((putF fs f).flatMap Fld.cs) ∧ Below w.heap.size w w' := by
  have HL := Lib.hid hl; clear hl
  have HF := Lib.hid h; clear h
  obtain ⟨R, hR⟩ : ∃ R, putF fs f = R := ⟨_, rfl⟩
  rw [hR]
  have HR := Lib.hid (show fs.take 0 ++ putF (fs.drop 0) f = R from hR); clear hR
  obtain ⟨i0, hi, iz0, iz1, iz2⟩ := info_parts info_Fld5
  obtain ⟨fn, fk, fr, fp, fm⟩ := f
  go_enter Try.func55, Try.ntmps55
  go_wp2
  go_loopw [5] (fun i wr => ∃ k : Nat, k ≤ n ∧ i = .int .i64 k ∧ Hid (fs.take k ++ putF (fs.drop k) ⟨fn, fk, fr, fp, fm⟩ = R) ∧ wr.heap[w.heap.size]? = some (.cells #[.int .i64 fn, .int .i64 fk, .bool fr, .bool fp, .int .i64 fm] 47 (0, 0)) ∧ Below w.heap.size w wr) (fun i _ => n - (intOf i).toNat)
  case atStart => exact ⟨0, Nat.zero_le _, rfl, HR, hset_new rfl, by ((repeat (first | (with_reducible exact Below.refl _ _) | (with_reducible assumption) | (with_reducible refine Below.alloc ?_ ?_ _) | (with_reducible refine Below.setCell ?_ ?_ _) | (with_reducible refine Below.drew ?_) | (with_reducible refine below_setRow ?_ ?_ _) | (refine Below.trans ?_ (Below.mono (by assumption) ?_)))); all_goals (first | omega | (simp; done) | (simp; omega)))⟩
  case round =>
    obtain ⟨k, hk, rfl, HK, hG, hb⟩ := hrel
    have kG := box_cells hG; have hlG := box_lt hG
    have HG := Lib.hid hG; clear hG
    have stop : ∀ wq : World, Below wr.heap.size wr wq → fs.take k ++ (⟨fn, fk, fr, fp, fm⟩ : Fld) :: fs.drop k = R → True := fun _ _ _ => trivial
    clear stop
    by_cases hlt : k < n
    · obtain ⟨g, hg, _⟩ := at_lt (xs := fs) (k := k) (by rw [HL.out]; exact hlt)
      obtain ⟨b', off', hbe, hbl, d0, -⟩ := Flds.at (Sl.keep HF.out hb) hg
      simp only [Option.some.injEq, Addr.mk.injEq, and_true] at hbe
      obtain ⟨rfl, rfl⟩ := hbe
      simp only [Nat.zero_add] at d0
      have HGe := Lib.hid hg; clear hg
      have hki : decide ((k : Int) < (n : Int)) = true := decide_eq_true (by omega)
      by_cases hq : g.number < fn
      · have HK2 := Lib.hid (pf_step HK.out HGe.out hq)
        have hq' : decide (g.number < fn) = true := decide_eq_true hq
        clear hq
        go_wp2_with fail
        (refine wp_region_ext (by kernel_rfl) (by kernel_rfl) ?_; (repeat (go_big_quiet_step (fail))); refine wpQuiet_nil ?_; intro w2 hb2; obtain ⟨hc2, hf2⟩ := bcell hb2; have hz2 := hb2.size; (try simp only [World.size_alloc, World.size_setCell, World.size_drew] at hz2))
        go_wp2
        go_roundw
        case rel => exact ⟨k + 1, by omega, by go_num, HK2, (hb2.block _ (by omega)).trans HG.out, hb.trans (hb2.mono (by omega))⟩
        case measure => simp [intOf]; omega
      · have HK2 := Lib.hid (pf_stop HK.out HGe.out hq)
        have hq' : decide (g.number < fn) = false := decide_eq_false hq
        clear hq
        go_wp2_with fail
        (refine wp_region_ext (by kernel_rfl) (by kernel_rfl) ?_; (repeat (go_big_quiet_step (fail))); refine wpQuiet_nil ?_; intro w2 hb2; obtain ⟨hc2, hf2⟩ := bcell hb2; have hz2 := hb2.size; (try simp only [World.size_alloc, World.size_setCell, World.size_drew] at hz2))
        have hkc : (k : Int) ≤ (cap : Int) := by omega
        have hk0 : (0 : Int) ≤ (k : Int) := by omega
        have hbw : Below w.heap.size w w2 := hb.trans (hb2.mono (by omega))
        have hGw := Lib.hid ((hb2.block _ (by omega)).trans HG.out)
        have HFw := Lib.hid (Sl.keep HF.out hbw)
        clear hc2 hf2 kG d0
        have HB : Hid ((w2.alloc (.cells #[] 47)).ownsRow w2.heap.size 47 5 (.slice (some ⟨w2.heap.size, 0, none⟩) 0 0) 0 []) := Lib.hid (own_built w2 47 5)
        have HN := Lib.hid (sl_newsN (w := w2.alloc (.cells #[] 47)) (cs := Fld.cs) (by omega) fld_len (Sl.keep HFw.out (by ((repeat (first | (with_reducible exact Below.refl _ _) | (with_reducible assumption) | (with_reducible refine Below.alloc ?_ ?_ _) | (with_reducible refine Below.setCell ?_ ?_ _) | (with_reducible refine Below.drew ?_) | (with_reducible refine below_setRow ?_ ?_ _) | (refine Below.trans ?_ (Below.mono (by assumption) ?_)))); all_goals (first | omega | (simp; done) | (simp; omega))))) _ rfl)
        have hlT : (fs.take k).length = k := by rw [List.length_take, HL.out]; omega
        go_wp2_with (first | (at_builtin; refine wpList_append_own _ rfl _ _ 41 rfl w2.heap.size 47 i0 _ 5 32 Try.underlying41 hi iz0 iz1 iz2 rfl (by decide) _ 0 [] rfl HB.out ⟨b, 0, none⟩ k cap ((fs.take k).flatMap Fld.cs) rfl (by rw [flatMap_len fld_len, hlT]) (fun j u hj => HN.out j u (takeF_pre hj)) (flat_one fld_one _) (by unfold maxLen; omega) (by omega) (by simp) ?_; intro v4 w4 hown4 hgr4 _; rw [Nat.zero_add, List.nil_append] at hown4; obtain ⟨a4, cap4, rfl, _⟩ := own_sh hown4; have hb4 : Below w2.heap.size w2 w4 := below_grown (by ((repeat (first | (with_reducible exact Below.refl _ _) | (with_reducible assumption) | (with_reducible refine Below.alloc ?_ ?_ _) | (with_reducible refine Below.setCell ?_ ?_ _) | (with_reducible refine Below.drew ?_) | (with_reducible refine below_setRow ?_ ?_ _) | (refine Below.trans ?_ (Below.mono (by assumption) ?_)))); all_goals (first | omega | (simp; done) | (simp; omega)))) hgr4 (fun g e => by have e' : w2.heap.size = g := Option.some.inj e; omega) (by simp); have HO4 := Lib.hid hown4; clear hown4 hgr4 HB HN; simp only [Nat.zero_add]))
        have hbw4 : Below w.heap.size w w4 := hbw.trans (hb4.mono (by omega))
        have hz4 := hb4.size
        have hG4 := (hb4.block w.heap.size (by omega)).trans hGw.out
        have kG4 := box_cells hG4; clear hG4
        have HF4 := Lib.hid (Sl.keep HFw.out hb4)
        refine wp_region_till (Cells [(⟨w.heap.size, 0, none⟩, .int .i64 fn), (⟨w.heap.size, 1, none⟩, .int .i64 fk), (⟨w.heap.size, 2, none⟩, .bool fr), (⟨w.heap.size, 3, none⟩, .bool fp), (⟨w.heap.size, 4, none⟩, .int .i64 fm)]) (fun i => decide (8 ≤ i)) (by kernel_rfl) ?_
        have hS : Cells [(⟨w.heap.size, 0, none⟩, .int .i64 fn), (⟨w.heap.size, 1, none⟩, .int .i64 fk), (⟨w.heap.size, 2, none⟩, .bool fr), (⟨w.heap.size, 3, none⟩, .bool fp), (⟨w.heap.size, 4, none⟩, .int .i64 fm)] w4.drew := cells_mk (kG4 0) (cells_mk (kG4 1) (cells_mk (kG4 2) (cells_mk (kG4 3) (cells_mk (kG4 4) (cells_no _)))))
        clear kG4
        have hcmk : (k : Int) ≤ (n : Int) := by omega
        refine' wpTill_take (i := 1) (oi := _) (v := .agg #[.int .i64 fn, .int .i64 fk, .bool fr, .bool fp, .int .i64 fm]) rfl (by kernel_rfl) (by kernel_rfl) (by kernel_rfl) (by kernel_rfl) (fun _ _ _ h => h) (yieldsIf_load_mid (by rfl) _ _ rfl _ _ rfl [.int .i64 fn, .int .i64 fk, .bool fr, .bool fp, .int .i64 fm] _ (fun wq hq => range_five hq) Try.underlying47 rfl (by kernel_rfl)) hS ?_
        try simp only [List.getElem_toArray, List.getElem_cons_succ, List.getElem_cons_zero, Act.put, List.setIfInBounds_toArray, List.set_cons_zero, List.set_cons_succ]
        refine wpTill_take (i := 0) (v := ?v0_1) rfl (by kernel_rfl) (by kernel_rfl) (by kernel_rfl) (by kernel_rfl) (fun _ _ _ h => h) (Or.inl ⟨by rfl, ?y0_1⟩) hS ?r0_1
        case y0_1 => (intro wq hq; (try simp only [cells_cons, cells_nil, and_true] at hq); first | (go_simp; done) | (go_simp; with_reducible rfl) | (obtain ⟨hq1, hq2⟩ := hq; go_simp; with_reducible rfl))
        try simp only [List.getElem_toArray, List.getElem_cons_succ, List.getElem_cons_zero, Act.put, List.setIfInBounds_toArray, List.set_cons_zero, List.set_cons_succ]
        refine wpTill_take (i := 4) (v := ?v4_2) rfl (by kernel_rfl) (by kernel_rfl) (by kernel_rfl) (by kernel_rfl) (fun _ _ _ h => h) (Or.inl ⟨by rfl, ?y4_2⟩) hS ?r4_2
        case y4_2 => (intro wq hq; (try simp only [cells_cons, cells_nil, and_true] at hq); first | (go_simp; done) | (go_simp; with_reducible rfl) | (obtain ⟨hq1, hq2⟩ := hq; go_simp; with_reducible rfl))
        try simp only [List.getElem_toArray, List.getElem_cons_succ, List.getElem_cons_zero, Act.put, List.setIfInBounds_toArray, List.set_cons_zero, List.set_cons_succ]
        refine wpTill_take (i := 5) (v := ?v5_3) rfl (by kernel_rfl) (by kernel_rfl) (by kernel_rfl) (by kernel_rfl) (fun _ _ _ h => h) (Or.inl ⟨by rfl, ?y5_3⟩) hS ?r5_3
        case y5_3 => (intro wq hq; (try simp only [cells_cons, cells_nil, and_true] at hq); first | (go_simp; done) | (go_simp; with_reducible rfl) | (obtain ⟨hq1, hq2⟩ := hq; go_simp; with_reducible rfl))
        try simp only [List.getElem_toArray, List.getElem_cons_succ, List.getElem_cons_zero, Act.put, List.setIfInBounds_toArray, List.set_cons_zero, List.set_cons_succ]
        refine wpTill_take (i := 6) (v := ?v6_4) rfl (by kernel_rfl) (by kernel_rfl) (by kernel_rfl) (by kernel_rfl) (fun _ _ _ h => h) (Or.inl ⟨by rfl, ?y6_4⟩) hS ?r6_4
        case y6_4 => (intro wq hq; (try simp only [cells_cons, cells_nil, and_true] at hq); first | (go_simp; done) | (go_simp; with_reducible rfl) | (obtain ⟨hq1, hq2⟩ := hq; go_simp; with_reducible rfl))
        try simp only [List.getElem_toArray, List.getElem_cons_succ, List.getElem_cons_zero, Act.put, List.setIfInBounds_toArray, List.set_cons_zero, List.set_cons_succ]
        refine wpTill_op (i := 2) (by kernel_rfl) rfl (fun K hK => ?_)
        go_simp
        refine hK.out _ _ (fun _ => hS.alloc _) ?_
        have hS5 := hS.alloc (.cells #[.int .i64 fn, .int .i64 fk, .bool fr, .bool fp, .int .i64 fm] 47); clear hS; have hS := hS5; clear hS5
        clear hK K
        try simp only [Act.put, List.setIfInBounds_toArray, List.set_cons_zero, List.set_cons_succ]
        have hb5 : Below w4.heap.size w4 (w4.alloc (.cells #[.int .i64 fn, .int .i64 fk, .bool fr, .bool fp, .int .i64 fm] 47)).drew := ((Below.refl _ _).alloc (Nat.le_refl _) _).drew
        have HO5 := Lib.hid (owns_below HO4.out hb5 (Nat.le_refl _))
        have HW5 := Lib.hid (World.news_of_block (w := (w4.alloc (.cells #[.int .i64 fn, .int .i64 fk, .bool fr, .bool fp, .int .i64 fm] 47)).drew) (cs := #[.int .i64 fn, .int .i64 fk, .bool fr, .bool fp, .int .i64 fm]) (t := 47) (fr := (0, 0)) (hset_drew (hset_new rfl)))
        have hq5 : ∀ g, (Value.slice a4 k cap4).ownBlock = some g → w.heap.size < g := fun g e => by have := (HO4.out.lt g e).1; omega
        refine wpTill_op (i := 3) (by kernel_rfl) rfl (fun K hK => ?_)
        refine step_append_own rfl _ _ 41 rfl w2.heap.size 47 i0 _ 5 32 Try.underlying41 hi iz0 iz1 iz2 rfl (by decide) _ k ((fs.take k).flatMap Fld.cs) rfl HO5.out ⟨w4.heap.size, 0, none⟩ 1 1 [.int .i64 fn, .int .i64 fk, .bool fr, .bool fp, .int .i64 fm] rfl rfl HW5.out (by simp [Value.oneCell']) (by unfold maxLen; omega) (by omega) (by simp; omega) ?_
        intro v6 w6 hown6 hgr6 _
        obtain ⟨a6, cap6, rfl, _⟩ := own_sh hown6
        have hS6 := hS.grown hgr6 (by intro q hq; simp only [List.mem_cons, List.not_mem_nil, or_false] at hq; intro e; have := hq5 _ e; rcases hq with rfl | rfl | rfl | rfl | rfl <;> (simp only at this; omega))
        have hb6 : Below w2.heap.size w2 w6 := below_grown ((hb4.trans (hb5.mono hz4))) hgr6 (fun g e => (HO4.out.lt g e).1) (by simp; omega)
        have HO6 := Lib.hid hown6; clear hown6 hgr6
        refine hK.out _ _ (fun _ => hS6) ?_
        clear hK K hS
        try simp only [List.getElem_toArray, List.getElem_cons_succ, List.getElem_cons_zero, Act.put, List.setIfInBounds_toArray, List.set_cons_zero, List.set_cons_succ]
        have HN6 := Lib.hid (sl_newsN (w := w6) (cs := Fld.cs) (by omega) fld_len (Sl.keep HFw.out hb6) _ rfl)
        have hck : ¬ (cap : Int) = (k : Int) := by omega
        have hck' : ¬ cap = k := by omega
        simp only [hck, hck', if_false]
        refine wpTill_op (i := 7) (by kernel_rfl) rfl (fun K hK => ?_)
        refine step_append_own rfl _ _ 41 rfl w2.heap.size 47 i0 _ 5 32 Try.underlying41 hi iz0 iz1 iz2 rfl (by decide) (.slice a6 (k + 1) cap6) (k + 1) ((fs.take k).flatMap Fld.cs ++ ([.int .i64 fn, .int .i64 fk, .bool fr, .bool fp, .int .i64 fm] : List Value)) rfl HO6.out ⟨b, k * 5, none⟩ (n - k) (cap - k) ((fs.drop k).flatMap Fld.cs) rfl (by rw [flatMap_len fld_len, List.length_drop, HL.out]) (fun j u hj => dropF_at HN6.out (by rw [HL.out]; omega) hj) (flat_one fld_one _) (by unfold maxLen; omega) (by omega) hb6.size ?_
        intro v8 w8 hown8 hgr8 _
        rw [show k + 1 + (n - k) = n + 1 by omega, show (fs.take k).flatMap Fld.cs ++ ([.int .i64 fn, .int .i64 fk, .bool fr, .bool fp, .int .i64 fm] : List Value) ++ (fs.drop k).flatMap Fld.cs = R.flatMap Fld.cs by rw [← HK2.out]; simp [List.flatMap_append, List.flatMap_cons, Fld.cs]] at hown8
        obtain ⟨a8, cap8, rfl, _⟩ := own_sh hown8
        have hb8 : Below w2.heap.size w2 w8 := below_grown hb6 hgr8 (fun g e => (HO6.out.lt g e).1) hb6.size
        refine hK.out _ _ (fun _ => hS6.grown hgr8 (by intro q hq; simp only [List.mem_cons, List.not_mem_nil, or_false] at hq; intro e; have := (HO6.out.lt _ e).1; rcases hq with rfl | rfl | rfl | rfl | rfl <;> (simp only at this; omega))) ?_
        clear hK K
        try simp only [List.getElem_toArray, List.getElem_cons_succ, List.getElem_cons_zero, Act.put, List.setIfInBounds_toArray, List.set_cons_zero, List.set_cons_succ]
        refine wpTill_op (i := 8) (by kernel_rfl) rfl (fun K hK => ?_)
        go_simp
        refine hK.out _ _ (fun e => by cases e) ?_
        clear hK K
        refine wpTill_done (by kernel_rfl) ?_ _
        go_wp2
        go_ret
        exact ⟨a8, cap8, rfl, own_mono hown8 (by omega), hbw.trans (hb8.mono (by omega))⟩
    · have HK2 := Lib.hid (pf_end HK.out (by rw [HL.out]; omega))
      have hki : decide ((k : Int) < (n : Int)) = false := decide_eq_false (by omega)
      go_wp2_with fail
      (refine wp_region_ext (by kernel_rfl) (by kernel_rfl) ?_; (repeat (go_big_quiet_step (fail))); refine wpQuiet_nil ?_; intro w2 hb2; obtain ⟨hc2, hf2⟩ := bcell hb2; have hz2 := hb2.size; (try simp only [World.size_alloc, World.size_setCell, World.size_drew] at hz2))
      have hkc : (k : Int) ≤ (cap : Int) := by omega
      have hk0 : (0 : Int) ≤ (k : Int) := by omega
      have hbw : Below w.heap.size w w2 := hb.trans (hb2.mono (by omega))
      have hGw := Lib.hid ((hb2.block _ (by omega)).trans HG.out)
      have HFw := Lib.hid (Sl.keep HF.out hbw)
      clear hc2 hf2 kG
      have HB : Hid ((w2.alloc (.cells #[] 47)).ownsRow w2.heap.size 47 5 (.slice (some ⟨w2.heap.size, 0, none⟩) 0 0) 0 []) := Lib.hid (own_built w2 47 5)
      have HN := Lib.hid (sl_newsN (w := w2.alloc (.cells #[] 47)) (cs := Fld.cs) (by omega) fld_len (Sl.keep HFw.out (by ((repeat (first | (with_reducible exact Below.refl _ _) | (with_reducible assumption) | (with_reducible refine Below.alloc ?_ ?_ _) | (with_reducible refine Below.setCell ?_ ?_ _) | (with_reducible refine Below.drew ?_) | (with_reducible refine below_setRow ?_ ?_ _) | (refine Below.trans ?_ (Below.mono (by assumption) ?_)))); all_goals (first | omega | (simp; done) | (simp; omega))))) _ rfl)
      have hlT : (fs.take k).length = k := by rw [List.length_take, HL.out]; omega
      go_wp2_with (first | (at_builtin; refine wpList_append_own _ rfl _ _ 41 rfl w2.heap.size 47 i0 _ 5 32 Try.underlying41 hi iz0 iz1 iz2 rfl (by decide) _ 0 [] rfl HB.out ⟨b, 0, none⟩ k cap ((fs.take k).flatMap Fld.cs) rfl (by rw [flatMap_len fld_len, hlT]) (fun j u hj => HN.out j u (takeF_pre hj)) (flat_one fld_one _) (by unfold maxLen; omega) (by omega) (by simp) ?_; intro v4 w4 hown4 hgr4 _; rw [Nat.zero_add, List.nil_append] at hown4; obtain ⟨a4, cap4, rfl, _⟩ := own_sh hown4; have hb4 : Below w2.heap.size w2 w4 := below_grown (by ((repeat (first | (with_reducible exact Below.refl _ _) | (with_reducible assumption) | (with_reducible refine Below.alloc ?_ ?_ _) | (with_reducible refine Below.setCell ?_ ?_ _) | (with_reducible refine Below.drew ?_) | (with_reducible refine below_setRow ?_ ?_ _) | (refine Below.trans ?_ (Below.mono (by assumption) ?_)))); all_goals (first | omega | (simp; done) | (simp; omega)))) hgr4 (fun g e => by have e' : w2.heap.size = g := Option.some.inj e; omega) (by simp); have HO4 := Lib.hid hown4; clear hown4 hgr4 HB HN; simp only [Nat.zero_add]))
      have hbw4 : Below w.heap.size w w4 := hbw.trans (hb4.mono (by omega))
      have hz4 := hb4.size
      have hG4 := (hb4.block w.heap.size (by omega)).trans hGw.out
      have kG4 := box_cells hG4; clear hG4
      have HF4 := Lib.hid (Sl.keep HFw.out hb4)
      refine wp_region_till (Cells [(⟨w.heap.size, 0, none⟩, .int .i64 fn), (⟨w.heap.size, 1, none⟩, .int .i64 fk), (⟨w.heap.size, 2, none⟩, .bool fr), (⟨w.heap.size, 3, none⟩, .bool fp), (⟨w.heap.size, 4, none⟩, .int .i64 fm)]) (fun i => decide (8 ≤ i)) (by kernel_rfl) ?_
      have hS : Cells [(⟨w.heap.size, 0, none⟩, .int .i64 fn), (⟨w.heap.size, 1, none⟩, .int .i64 fk), (⟨w.heap.size, 2, none⟩, .bool fr), (⟨w.heap.size, 3, none⟩, .bool fp), (⟨w.heap.size, 4, none⟩, .int .i64 fm)] w4.drew := cells_mk (kG4 0) (cells_mk (kG4 1) (cells_mk (kG4 2) (cells_mk (kG4 3) (cells_mk (kG4 4) (cells_no _)))))
      clear kG4
      have hcmk : (k : Int) ≤ (n : Int) := by omega
      refine' wpTill_take (i := 1) (oi := _) (v := .agg #[.int .i64 fn, .int .i64 fk, .bool fr, .bool fp, .int .i64 fm]) rfl (by kernel_rfl) (by kernel_rfl) (by kernel_rfl) (by kernel_rfl) (fun _ _ _ h => h) (yieldsIf_load_mid (by rfl) _ _ rfl _ _ rfl [.int .i64 fn, .int .i64 fk, .bool fr, .bool fp, .int .i64 fm] _ (fun wq hq => range_five hq) Try.underlying47 rfl (by kernel_rfl)) hS ?_
      try simp only [List.getElem_toArray, List.getElem_cons_succ, List.getElem_cons_zero, Act.put, List.setIfInBounds_toArray, List.set_cons_zero, List.set_cons_succ]
      refine wpTill_take (i := 0) (v := ?v0_5) rfl (by kernel_rfl) (by kernel_rfl) (by kernel_rfl) (by kernel_rfl) (fun _ _ _ h => h) (Or.inl ⟨by rfl, ?y0_5⟩) hS ?r0_5
      case y0_5 => (intro wq hq; (try simp only [cells_cons, cells_nil, and_true] at hq); first | (go_simp; done) | (go_simp; with_reducible rfl) | (obtain ⟨hq1, hq2⟩ := hq; go_simp; with_reducible rfl))
      try simp only [List.getElem_toArray, List.getElem_cons_succ, List.getElem_cons_zero, Act.put, List.setIfInBounds_toArray, List.set_cons_zero, List.set_cons_succ]
      refine wpTill_take (i := 4) (v := ?v4_6) rfl (by kernel_rfl) (by kernel_rfl) (by kernel_rfl) (by kernel_rfl) (fun _ _ _ h => h) (Or.inl ⟨by rfl, ?y4_6⟩) hS ?r4_6
      case y4_6 => (intro wq hq; (try simp only [cells_cons, cells_nil, and_true] at hq); first | (go_simp; done) | (go_simp; with_reducible rfl) | (obtain ⟨hq1, hq2⟩ := hq; go_simp; with_reducible rfl))
      try simp only [List.getElem_toArray, List.getElem_cons_succ, List.getElem_cons_zero, Act.put, List.setIfInBounds_toArray, List.set_cons_zero, List.set_cons_succ]
      refine wpTill_take (i := 5) (v := ?v5_7) rfl (by kernel_rfl) (by kernel_rfl) (by kernel_rfl) (by kernel_rfl) (fun _ _ _ h => h) (Or.inl ⟨by rfl, ?y5_7⟩) hS ?r5_7
      case y5_7 => (intro wq hq; (try simp only [cells_cons, cells_nil, and_true] at hq); first | (go_simp; done) | (go_simp; with_reducible rfl) | (obtain ⟨hq1, hq2⟩ := hq; go_simp; with_reducible rfl))
      try simp only [List.getElem_toArray, List.getElem_cons_succ, List.getElem_cons_zero, Act.put, List.setIfInBounds_toArray, List.set_cons_zero, List.set_cons_succ]
      refine wpTill_take (i := 6) (v := ?v6_8) rfl (by kernel_rfl) (by kernel_rfl) (by kernel_rfl) (by kernel_rfl) (fun _ _ _ h => h) (Or.inl ⟨by rfl, ?y6_8⟩) hS ?r6_8
      case y6_8 => (intro wq hq; (try simp only [cells_cons, cells_nil, and_true] at hq); first | (go_simp; done) | (go_simp; with_reducible rfl) | (obtain ⟨hq1, hq2⟩ := hq; go_simp; with_reducible rfl))
      try simp only [List.getElem_toArray, List.getElem_cons_succ, List.getElem_cons_zero, Act.put, List.setIfInBounds_toArray, List.set_cons_zero, List.set_cons_succ]
      refine wpTill_op (i := 2) (by kernel_rfl) rfl (fun K hK => ?_)
      go_simp
      refine hK.out _ _ (fun _ => hS.alloc _) ?_
      have hS5 := hS.alloc (.cells #[.int .i64 fn, .int .i64 fk, .bool fr, .bool fp, .int .i64 fm] 47); clear hS; have hS := hS5; clear hS5
      clear hK K
      try simp only [Act.put, List.setIfInBounds_toArray, List.set_cons_zero, List.set_cons_succ]
      have hb5 : Below w4.heap.size w4 (w4.alloc (.cells #[.int .i64 fn, .int .i64 fk, .bool fr, .bool fp, .int .i64 fm] 47)).drew := ((Below.refl _ _).alloc (Nat.le_refl _) _).drew
      have HO5 := Lib.hid (owns_below HO4.out hb5 (Nat.le_refl _))
      have HW5 := Lib.hid (World.news_of_block (w := (w4.alloc (.cells #[.int .i64 fn, .int .i64 fk, .bool fr, .bool fp, .int .i64 fm] 47)).drew) (cs := #[.int .i64 fn, .int .i64 fk, .bool fr, .bool fp, .int .i64 fm]) (t := 47) (fr := (0, 0)) (hset_drew (hset_new rfl)))
      have hq5 : ∀ g, (Value.slice a4 k cap4).ownBlock = some g → w.heap.size < g := fun g e => by have := (HO4.out.lt g e).1; omega
      refine wpTill_op (i := 3) (by kernel_rfl) rfl (fun K hK => ?_)
      refine step_append_own rfl _ _ 41 rfl w2.heap.size 47 i0 _ 5 32 Try.underlying41 hi iz0 iz1 iz2 rfl (by decide) _ k ((fs.take k).flatMap Fld.cs) rfl HO5.out ⟨w4.heap.size, 0, none⟩ 1 1 [.int .i64 fn, .int .i64 fk, .bool fr, .bool fp, .int .i64 fm] rfl rfl HW5.out (by simp [Value.oneCell']) (by unfold maxLen; omega) (by omega) (by simp; omega) ?_
      intro v6 w6 hown6 hgr6 _
      obtain ⟨a6, cap6, rfl, _⟩ := own_sh hown6
      have hS6 := hS.grown hgr6 (by intro q hq; simp only [List.mem_cons, List.not_mem_nil, or_false] at hq; intro e; have := hq5 _ e; rcases hq with rfl | rfl | rfl | rfl | rfl <;> (simp only at this; omega))
      have hb6 : Below w2.heap.size w2 w6 := below_grown ((hb4.trans (hb5.mono hz4))) hgr6 (fun g e => (HO4.out.lt g e).1) (by simp; omega)
      have HO6 := Lib.hid hown6; clear hown6 hgr6
      refine hK.out _ _ (fun _ => hS6) ?_
      clear hK K hS
      try simp only [List.getElem_toArray, List.getElem_cons_succ, List.getElem_cons_zero, Act.put, List.setIfInBounds_toArray, List.set_cons_zero, List.set_cons_succ]
      have HN6 := Lib.hid (sl_newsN (w := w6) (cs := Fld.cs) (by omega) fld_len (Sl.keep HFw.out hb6) _ rfl)
      obtain ⟨ad, had⟩ : ∃ ad : Addr, (if cap = k then some (⟨b, 0, none⟩ : Addr) else some ⟨b, k * 5, none⟩) = some ad := by
        split <;> exact ⟨_, rfl⟩
      have hdn : fs.drop k = [] := List.drop_of_length_le (by rw [HL.out]; omega)
      simp only [had]
      refine wpTill_op (i := 7) (by kernel_rfl) rfl (fun K hK => ?_)
      refine step_append_own rfl _ _ 41 rfl w2.heap.size 47 i0 _ 5 32 Try.underlying41 hi iz0 iz1 iz2 rfl (by decide) (.slice a6 (k + 1) cap6) (k + 1) ((fs.take k).flatMap Fld.cs ++ ([.int .i64 fn, .int .i64 fk, .bool fr, .bool fp, .int .i64 fm] : List Value)) rfl HO6.out ad (n - k) (cap - k) ((fs.drop k).flatMap Fld.cs) rfl (by rw [hdn]; simp; omega) (fun j u hj => by rw [hdn] at hj; simp at hj) (flat_one fld_one _) (by unfold maxLen; omega) (by omega) hb6.size ?_
      intro v8 w8 hown8 hgr8 _
      rw [show k + 1 + (n - k) = n + 1 by omega, show (fs.take k).flatMap Fld.cs ++ ([.int .i64 fn, .int .i64 fk, .bool fr, .bool fp, .int .i64 fm] : List Value) ++ (fs.drop k).flatMap Fld.cs = R.flatMap Fld.cs by rw [← HK2.out]; simp [List.flatMap_append, List.flatMap_cons, Fld.cs]] at hown8
      obtain ⟨a8, cap8, rfl, _⟩ := own_sh hown8
      have hb8 : Below w2.heap.size w2 w8 := below_grown hb6 hgr8 (fun g e => (HO6.out.lt g e).1) hb6.size
      refine hK.out _ _ (fun _ => hS6.grown hgr8 (by intro q hq; simp only [List.mem_cons, List.not_mem_nil, or_false] at hq; intro e; have := (HO6.out.lt _ e).1; rcases hq with rfl | rfl | rfl | rfl | rfl <;> (simp only at this; omega))) ?_
      clear hK K
      try simp only [List.getElem_toArray, List.getElem_cons_succ, List.getElem_cons_zero, Act.put, List.setIfInBounds_toArray, List.set_cons_zero, List.set_cons_succ]
      refine wpTill_op (i := 8) (by kernel_rfl) rfl (fun K hK => ?_)
      go_simp
      refine hK.out _ _ (fun e => by cases e) ?_
      clear hK K
      refine wpTill_done (by kernel_rfl) ?_ _
      go_wp2
      go_ret
      exact ⟨a8, cap8, rfl, own_mono hown8 (by omega), hbw.trans (hb8.mono (by omega))⟩
set_option maxRecDepth 100000 in
set_option maxHeartbeats 4000000 in
theorem l8Put_nil (f : Fld) (w : World) :
    Calls Try.prog 55 #[.slice none 0 0, f.val] w fun r w' => ∃ a' cap', r = .returned (.slice a' 1 cap') ∧ w'.ownsRow w.heap.size 47 5 (.slice a' 1 cap') 1 f.cs ∧ Below w.heap.size w w' := by
  obtain ⟨i0, hi, iz0, iz1, iz2⟩ := info_parts info_Fld5
  obtain ⟨fn, fk, fr, fp, fm⟩ := f
  go_enter Try.func55, Try.ntmps55
  go_wp2
  go_loopw [5] (fun i wr => i = .int .i64 0 ∧ wr.heap[w.heap.size]? = some (.cells #[.int .i64 fn, .int .i64 fk, .bool fr, .bool fp, .int .i64 fm] 47 (0, 0)) ∧ Below w.heap.size w wr) (fun i _ => 0 - (intOf i).toNat)
  case atStart => exact ⟨rfl, hset_new rfl, by ((repeat (first | (with_reducible exact Below.refl _ _) | (with_reducible assumption) | (with_reducible refine Below.alloc ?_ ?_ _) | (with_reducible refine Below.setCell ?_ ?_ _) | (with_reducible refine Below.drew ?_) | (with_reducible refine below_setRow ?_ ?_ _) | (refine Below.trans ?_ (Below.mono (by assumption) ?_)))); all_goals (first | omega | (simp; done) | (simp; omega)))⟩
  case round =>
    obtain ⟨rfl, hG, hb⟩ := hrel
    have kG := box_cells hG; have hlG := box_lt hG
    have HG := Lib.hid hG; clear hG
    go_wp2_with fail
    (refine wp_region_ext (by kernel_rfl) (by kernel_rfl) ?_; (repeat (go_big_quiet_step (fail))); refine wpQuiet_nil ?_; intro w2 hb2; obtain ⟨hc2, hf2⟩ := bcell hb2; have hz2 := hb2.size; (try simp only [World.size_alloc, World.size_setCell, World.size_drew] at hz2))
    have hbw : Below w.heap.size w w2 := hb.trans (hb2.mono (by omega))
    have hGw := Lib.hid ((hb2.block _ (by omega)).trans HG.out)
    clear hc2 hf2 kG
    have HB : Hid ((w2.alloc (.cells #[] 47)).ownsRow w2.heap.size 47 5 (.slice (some ⟨w2.heap.size, 0, none⟩) 0 0) 0 []) := Lib.hid (own_built w2 47 5)
    go_wp2_with (first | (at_builtin; refine wpList_append_any rfl _ _ 41 rfl w2.heap.size 47 i0 _ 5 32 Try.underlying41 hi iz0 iz1 iz2 rfl (by decide) _ 0 [] rfl HB.out none 0 0 [] rfl (fun _ => ⟨rfl, rfl⟩) rfl (fun _ e => by cases e) (fun _ h => by cases h) (by unfold maxLen; omega) (by omega) (by simp) ?_; intro v4 w4 hown4 hgr4; simp only [Nat.zero_add, List.nil_append, List.append_nil] at hown4; obtain ⟨a4, cap4, rfl, _⟩ := own_sh hown4; have hb4 : Below w2.heap.size w2 w4 := below_grown (by ((repeat (first | (with_reducible exact Below.refl _ _) | (with_reducible assumption) | (with_reducible refine Below.alloc ?_ ?_ _) | (with_reducible refine Below.setCell ?_ ?_ _) | (with_reducible refine Below.drew ?_) | (with_reducible refine below_setRow ?_ ?_ _) | (refine Below.trans ?_ (Below.mono (by assumption) ?_)))); all_goals (first | omega | (simp; done) | (simp; omega)))) hgr4 (fun g e => by have e' : w2.heap.size = g := Option.some.inj e; omega) (by simp); have HO4 := Lib.hid hown4; clear hown4 hgr4 HB; simp only [Nat.zero_add]))
    have hbw4 : Below w.heap.size w w4 := hbw.trans (hb4.mono (by omega))
    have hz4 := hb4.size
    have hG4 := (hb4.block w.heap.size (by omega)).trans hGw.out
    have kG4 := box_cells hG4; clear hG4
    refine wp_region_till (Cells [(⟨w.heap.size, 0, none⟩, .int .i64 fn), (⟨w.heap.size, 1, none⟩, .int .i64 fk), (⟨w.heap.size, 2, none⟩, .bool fr), (⟨w.heap.size, 3, none⟩, .bool fp), (⟨w.heap.size, 4, none⟩, .int .i64 fm)]) (fun i => decide (8 ≤ i)) (by kernel_rfl) ?_
    have hS : Cells [(⟨w.heap.size, 0, none⟩, .int .i64 fn), (⟨w.heap.size, 1, none⟩, .int .i64 fk), (⟨w.heap.size, 2, none⟩, .bool fr), (⟨w.heap.size, 3, none⟩, .bool fp), (⟨w.heap.size, 4, none⟩, .int .i64 fm)] w4.drew := cells_mk (kG4 0) (cells_mk (kG4 1) (cells_mk (kG4 2) (cells_mk (kG4 3) (cells_mk (kG4 4) (cells_no _)))))
    clear kG4
    refine' wpTill_take (i := 1) (oi := _) (v := .agg #[.int .i64 fn, .int .i64 fk, .bool fr, .bool fp, .int .i64 fm]) rfl (by kernel_rfl) (by kernel_rfl) (by kernel_rfl) (by kernel_rfl) (fun _ _ _ h => h) (yieldsIf_load_mid (by rfl) _ _ rfl _ _ rfl [.int .i64 fn, .int .i64 fk, .bool fr, .bool fp, .int .i64 fm] _ (fun wq hq => range_five hq) Try.underlying47 rfl (by kernel_rfl)) hS ?_
    try simp only [List.getElem_toArray, List.getElem_cons_succ, List.getElem_cons_zero, Act.put, List.setIfInBounds_toArray, List.set_cons_zero, List.set_cons_succ]
    refine wpTill_take (i := 0) (v := ?v0_9) rfl (by kernel_rfl) (by kernel_rfl) (by kernel_rfl) (by kernel_rfl) (fun _ _ _ h => h) (Or.inl ⟨by rfl, ?y0_9⟩) hS ?r0_9
    case y0_9 => (intro wq hq; (try simp only [cells_cons, cells_nil, and_true] at hq); first | (go_simp; done) | (go_simp; with_reducible rfl) | (obtain ⟨hq1, hq2⟩ := hq; go_simp; with_reducible rfl))
    try simp only [List.getElem_toArray, List.getElem_cons_succ, List.getElem_cons_zero, Act.put, List.setIfInBounds_toArray, List.set_cons_zero, List.set_cons_succ]
    refine wpTill_take (i := 4) (v := ?v4_10) rfl (by kernel_rfl) (by kernel_rfl) (by kernel_rfl) (by kernel_rfl) (fun _ _ _ h => h) (Or.inl ⟨by rfl, ?y4_10⟩) hS ?r4_10
    case y4_10 => (intro wq hq; (try simp only [cells_cons, cells_nil, and_true] at hq); first | (go_simp; done) | (go_simp; with_reducible rfl) | (obtain ⟨hq1, hq2⟩ := hq; go_simp; with_reducible rfl))
    try simp only [List.getElem_toArray, List.getElem_cons_succ, List.getElem_cons_zero, Act.put, List.setIfInBounds_toArray, List.set_cons_zero, List.set_cons_succ]
    refine wpTill_take (i := 5) (v := ?v5_11) rfl (by kernel_rfl) (by kernel_rfl) (by kernel_rfl) (by kernel_rfl) (fun _ _ _ h => h) (Or.inl ⟨by rfl, ?y5_11⟩) hS ?r5_11
    case y5_11 => (intro wq hq; (try simp only [cells_cons, cells_nil, and_true] at hq); first | (go_simp; done) | (go_simp; with_reducible rfl) | (obtain ⟨hq1, hq2⟩ := hq; go_simp; with_reducible rfl))
    try simp only [List.getElem_toArray, List.getElem_cons_succ, List.getElem_cons_zero, Act.put, List.setIfInBounds_toArray, List.set_cons_zero, List.set_cons_succ]
    refine wpTill_take (i := 6) (v := ?v6_12) rfl (by kernel_rfl) (by kernel_rfl) (by kernel_rfl) (by kernel_rfl) (fun _ _ _ h => h) (Or.inl ⟨by rfl, ?y6_12⟩) hS ?r6_12
    case y6_12 => (intro wq hq; (try simp only [cells_cons, cells_nil, and_true] at hq); first | (go_simp; done) | (go_simp; with_reducible rfl) | (obtain ⟨hq1, hq2⟩ := hq; go_simp; with_reducible rfl))
    try simp only [List.getElem_toArray, List.getElem_cons_succ, List.getElem_cons_zero, Act.put, List.setIfInBounds_toArray, List.set_cons_zero, List.set_cons_succ]
    refine wpTill_op (i := 2) (by kernel_rfl) rfl (fun K hK => ?_)
    go_simp
    refine hK.out _ _ (fun _ => hS.alloc _) ?_
    have hS5 := hS.alloc (.cells #[.int .i64 fn, .int .i64 fk, .bool fr, .bool fp, .int .i64 fm] 47); clear hS; have hS := hS5; clear hS5
    clear hK K
    try simp only [Act.put, List.setIfInBounds_toArray, List.set_cons_zero, List.set_cons_succ]
    have hb5 : Below w4.heap.size w4 (w4.alloc (.cells #[.int .i64 fn, .int .i64 fk, .bool fr, .bool fp, .int .i64 fm] 47)).drew := ((Below.refl _ _).alloc (Nat.le_refl _) _).drew
    have HO5 := Lib.hid (owns_below HO4.out hb5 (Nat.le_refl _))
    have HW5 := Lib.hid (World.news_of_block (w := (w4.alloc (.cells #[.int .i64 fn, .int .i64 fk, .bool fr, .bool fp, .int .i64 fm] 47)).drew) (cs := #[.int .i64 fn, .int .i64 fk, .bool fr, .bool fp, .int .i64 fm]) (t := 47) (fr := (0, 0)) (hset_drew (hset_new rfl)))
    have hq5 : ∀ g, (Value.slice a4 0 cap4).ownBlock = some g → w.heap.size < g := fun g e => by have := (HO4.out.lt g e).1; omega
    refine wpTill_op (i := 3) (by kernel_rfl) rfl (fun K hK => ?_)
    refine step_append_own rfl _ _ 41 rfl w2.heap.size 47 i0 _ 5 32 Try.underlying41 hi iz0 iz1 iz2 rfl (by decide) (.slice a4 0 cap4) 0 [] rfl HO5.out ⟨w4.heap.size, 0, none⟩ 1 1 [.int .i64 fn, .int .i64 fk, .bool fr, .bool fp, .int .i64 fm] rfl rfl HW5.out (by simp [Value.oneCell']) (by unfold maxLen; omega) (by omega) (by simp; omega) ?_
    intro v6 w6 hown6 hgr6 _
    obtain ⟨a6, cap6, rfl, _⟩ := own_sh hown6
    have hS6 := hS.grown hgr6 (by intro q hq; simp only [List.mem_cons, List.not_mem_nil, or_false] at hq; intro e; have := hq5 _ e; rcases hq with rfl | rfl | rfl | rfl | rfl <;> (simp only at this; omega))
    have hb6 : Below w2.heap.size w2 w6 := below_grown ((hb4.trans (hb5.mono hz4))) hgr6 (fun g e => (HO4.out.lt g e).1) (by simp; omega)
    simp only [Nat.zero_add, List.nil_append] at hown6; have HO6 := Lib.hid hown6; clear hown6 hgr6
    refine hK.out _ _ (fun _ => hS6) ?_
    clear hK K
    try simp only [List.getElem_toArray, List.getElem_cons_succ, List.getElem_cons_zero, Act.put, List.setIfInBounds_toArray, List.set_cons_zero, List.set_cons_succ]
    refine wpTill_op (i := 7) (by kernel_rfl) rfl (fun K hK => ?_)
    refine step_append_none rfl _ _ 41 rfl w2.heap.size 47 i0 5 Try.underlying41 hi (.slice a6 1 cap6) 1 [.int .i64 fn, .int .i64 fk, .bool fr, .bool fp, .int .i64 fm] rfl HO6.out rfl ?_
    refine hK.out _ _ (fun _ => hS6) ?_
    clear hK K
    try simp only [List.getElem_toArray, List.getElem_cons_succ, List.getElem_cons_zero, Act.put, List.setIfInBounds_toArray, List.set_cons_zero, List.set_cons_succ]
    refine wpTill_op (i := 8) (by kernel_rfl) rfl (fun K hK => ?_)
    go_simp
    refine hK.out _ _ (fun e => by cases e) ?_
    clear hK K
    refine wpTill_done (by kernel_rfl) ?_ _
    go_wp2
    go_ret
    exact ⟨a6, cap6, rfl, own_mono HO6.out (by omega), hbw.trans (hb6.mono (by omega))⟩
end Go.Proofs.Ytbpilecgnfnndaa
namespace Go.Proofs.Ytbpilecgnfnndaa
set_option linter.unusedSimpArgs false
set_option linter.unusedVariables false
open Go.ChangeShapes Go.WideShapes Go.ChangeAt Go.RowKit Go.BigFrame
theorem setRow_set2 : ∀ (rs : List ShR) (k : Nat) (r : ShR), k < rs.length → setRow (rs.flatMap ShR.cs) (k * 2) r.cs = (rs.set k r).flatMap ShR.cs
  | [], k, r, h => by simp at h
  | s :: rs, 0, r, h => by simp [setRow, ShR.cs]
  | s :: rs, k + 1, r, h => by
    have ih := setRow_set2 rs k r (by simpa using h)
    simp only [setRow, ShR.cs, List.flatMap_cons, List.set_cons_succ] at ih ⊢
    rw [show (k + 1) * 2 = k * 2 + 2 by omega]
    simpa using ih
theorem OwnShs.storeAt {w : World} {base g n cap k : Nat} {T TF : TypeId} {rs : List ShR} {xs : List Shp} (h : OwnShs w base T TF (.slice (some ⟨g, 0, none⟩) n cap) n rs xs) (hne : T ≠ TF) (hk : k < n)
    {r : ShR} {x : Shp} (hr : RowIs w base TF r x) (hap : ∀ (i : Nat) (s : ShR), i ≠ k → rs[i]? = some s → ∀ b, (Value.slice s.a s.n s.cap).ownBlock = some b → (Value.slice r.a r.n r.cap).ownBlock ≠ some b) :
    OwnShs ((w.setCell ⟨g, k * 2, none⟩ (.int .i64 r.id)).setCell ⟨g, k * 2 + 1, none⟩ (.slice r.a r.n r.cap)) base T TF (.slice (some ⟨g, 0, none⟩) n cap) n (rs.set k r) (xs.set k x) := by
  have hst := ShR.store h.outer k r
  have far : ∀ {s : ShR} {y : Shp}, RowIs w base TF s y → RowIs ((w.setCell ⟨g, k * 2, none⟩ (.int .i64 r.id)).setCell ⟨g, k * 2 + 1, none⟩ (.slice r.a r.n r.cap)) base TF s y := by
    intro s y hsy
    obtain ⟨e1, e2, e3⟩ := hsy
    refine ⟨e1, e2, ?_⟩
    have hne' : (Value.slice s.a s.n s.cap).ownBlock ≠ some g := by
      intro hg
      rcases e3.2 with ⟨e4, _⟩ | ⟨g1, c1, cur1, e4, _, hh1, _⟩
      · rw [e4] at hg; simp [Value.ownBlock] at hg
      · rw [e4] at hg
        simp [Value.ownBlock] at hg
        subst hg
        rcases h.outer.2 with ⟨e5, _⟩ | ⟨g2, c2, cur2, e5, _, hh2, _⟩
        · simp at e5
        · simp only [Value.slice.injEq, Option.some.injEq, Addr.mk.injEq] at e5
          obtain ⟨⟨rfl, _, _⟩, _, _⟩ := e5
          rw [hh1] at hh2
          simp at hh2
          exact hne hh2.2.symm
    have k1 := e3.kept (h.outer.stored (k * 2) (.int .i64 r.id)).2 (.inr hne')
    exact k1.kept ((h.outer.stored (k * 2) (.int .i64 r.id)).1.stored (k * 2 + 1) (.slice r.a r.n r.cap)).2 (.inr hne')
  refine ⟨by simp [h.len], by simp [h.lenx], ?_, ?_, ?_⟩
  · rw [← setRow_set2 rs k r (by rw [h.len]; exact hk)]; exact hst
  · intro i s y hs hy
    by_cases hi : k = i
    · subst hi
      rw [List.getElem?_set_self (by rw [h.len]; exact hk)] at hs
      rw [List.getElem?_set_self (by rw [h.lenx]; exact hk)] at hy
      simp at hs hy; subst hs; subst hy
      exact far hr
    · rw [List.getElem?_set_ne hi] at hs hy
      exact far (h.each i s y hs hy)
  · intro i j s t hs ht hij b hb hb'
    by_cases hi : k = i
    · subst hi
      rw [List.getElem?_set_self (by rw [h.len]; exact hk)] at hs
      rw [List.getElem?_set_ne hij] at ht
      simp at hs; subst hs
      exact hap j t (Ne.symm hij) ht b hb' hb
    · rw [List.getElem?_set_ne hi] at hs
      by_cases hj : k = j
      · subst hj
        rw [List.getElem?_set_self (by rw [h.len]; exact hk)] at ht
        simp at ht; subst ht
        exact hap i s (Ne.symm hi) hs b hb hb'
      · rw [List.getElem?_set_ne hj] at ht
        exact h.apart i j s t hs ht hij b hb hb'
theorem OwnShs.zeros {w : World} {base n : Nat} {T TF : TypeId} {v : Value} (h : w.ownsRow base T 2 v n ((List.replicate n (⟨0, none, 0, 0⟩ : ShR)).flatMap ShR.cs)) :
    OwnShs w base T TF v n (List.replicate n ⟨0, none, 0, 0⟩) (List.replicate n ⟨0, []⟩) := by
  refine ⟨by simp, by simp, h, ?_, ?_⟩
  · intro k r x hr hx
    obtain ⟨_, rfl⟩ := List.getElem?_eq_some_iff.1 hr
    obtain ⟨_, rfl⟩ := List.getElem?_eq_some_iff.1 hx
    simp only [List.getElem_replicate]
    exact ⟨rfl, rfl, World.ownsRow_nil _ _ _ _⟩
  · intro i j r s hr hs hij g hg
    obtain ⟨_, rfl⟩ := List.getElem?_eq_some_iff.1 hr
    simp [Value.ownBlock] at hg
def cfld (xs : List Shp) (f : Fld) : Fld := ⟨f.number, f.kind, f.rep, f.packed, if f.kind = 8 then (rankS xs f.msg : Nat) else -1⟩
def cflds (xs : List Shp) : List Fld → List Fld → List Fld
  | l, [] => l
  | l, f :: fs => cflds xs (putF l (cfld xs f)) fs
theorem cflds_len (xs : List Shp) : ∀ (fs l : List Fld), (cflds xs l fs).length = l.length + fs.length
  | [], l => rfl
  | f :: fs, l => by rw [cflds, cflds_len xs fs, putF_len]; simp; omega
def cgo (xs : List Shp) : List Shp → List Shp → List Shp
  | ys, [] => ys
  | ys, x :: rest => cgo xs (ys.set (rankS xs x.id) ⟨x.id, cflds xs [] x.flds⟩) rest
def compS (xs : List Shp) : List Shp := cgo xs (List.replicate xs.length ⟨0, []⟩) xs
theorem cgo_len (xs : List Shp) : ∀ (rest ys : List Shp), (cgo xs ys rest).length = ys.length
  | [], ys => rfl
  | x :: rest, ys => by rw [cgo, cgo_len xs rest]; simp
theorem compS_len (xs : List Shp) : (compS xs).length = xs.length := by rw [compS, cgo_len]; simp
theorem filter_lt {α : Type} {p : α → Bool} : ∀ {xs : List α} {x : α}, x ∈ xs → p x = false → (xs.filter p).length < xs.length
  | y :: ys, x, h, hp => by
    rcases List.mem_cons.1 h with rfl | h'
    · rw [List.filter_cons_of_neg (by simp [hp])]
      exact Nat.lt_succ_of_le (List.length_filter_le _ _)
    · have := filter_lt h' hp
      by_cases hy : p y = true
      · rw [List.filter_cons_of_pos hy]; simp only [List.length_cons]; omega
      · rw [List.filter_cons_of_neg (by simpa using hy)]; simp only [List.length_cons]; omega
theorem rank_lt {xs : List Shp} {x : Shp} (h : x ∈ xs) : rankS xs x.id < xs.length := filter_lt h (by simp)
theorem c_step {xs : List Shp} {fs l : List Fld} {f : Fld} {k : Nat} {R : List Fld} (h : cflds xs l (fs.drop k) = R) (hf : fs[k]? = some f) : cflds xs (putF l (cfld xs f)) (fs.drop (k + 1)) = R := by
  rw [drop_cons hf] at h; exact h
theorem c_end {xs : List Shp} {fs l : List Fld} {k : Nat} {R : List Fld} (h : cflds xs l (fs.drop k) = R) (hk : fs.length ≤ k) : l = R := by
  rw [List.drop_of_length_le hk] at h; exact h
theorem g_step {xs ys zs : List Shp} {x : Shp} {k : Nat} {R : List Shp} (h : cgo xs ys (zs.drop k) = R) (hx : zs[k]? = some x) : cgo xs (ys.set (rankS xs x.id) ⟨x.id, cflds xs [] x.flds⟩) (zs.drop (k + 1)) = R := by
  rw [drop_cons hx] at h; exact h
theorem g_end {xs ys zs : List Shp} {k : Nat} {R : List Shp} (h : cgo xs ys (zs.drop k) = R) (hk : zs.length ≤ k) : ys = R := by
  rw [List.drop_of_length_le hk] at h; exact h
theorem own_capC {w : World} {base n cap size : Nat} {t : TypeId} {a : Option Addr} {L : List Value} (h : w.ownsRow base t size (.slice a n cap) n L) : n ≤ cap := by
  rcases h.2 with ⟨e, h0⟩ | ⟨g, c, cur, e, _, _, hc, _⟩
  · simp only [Value.slice.injEq] at e; omega
  · simp only [Value.slice.injEq] at e; omega
set_option maxHeartbeats 1000000 in
theorem l8Put_own {B cap n : Nat} {a : Option Addr} {fs : List Fld} (f : Fld) (w : World) (h : w.ownsRow B 47 5 (.slice a n cap) n (fs.flatMap Fld.cs)) (hn : n ≤ 1000) :
    Calls Try.prog 55 #[.slice a n cap, f.val] w fun r w' => ∃ a' cap', r = .returned (.slice a' (n + 1) cap') ∧ w'.ownsRow w.heap.size 47 5 (.slice a' (n + 1) cap') (n + 1) ((putF fs f).flatMap Fld.cs) ∧ Below w.heap.size w w' := by
  have hl : fs.length = n := by have := h.1; rw [flatMap_len fld_len] at this; omega
  have hs := flds_of_own h hl
  have hc := own_capC h
  rcases h.2 with ⟨e, rfl⟩ | ⟨g, c, cur, e, -⟩
  · simp only [Value.slice.injEq] at e
    obtain ⟨rfl, -, rfl⟩ := e
    have e0 : fs = [] := List.eq_nil_of_length_eq_zero hl
    subst e0
    refine (l8Put_nil f w).mono ?_
    rintro r w1 ⟨a', cap', rfl, ho, hb⟩
    exact ⟨a', cap', rfl, by simpa [putF] using ho, hb⟩
  · simp only [Value.slice.injEq] at e
    obtain ⟨rfl, -, rfl⟩ := e
    exact l8Put_any g cap n fs f w hs hl hn hc
end Go.Proofs.Ytbpilecgnfnndaa
namespace Go.Proofs.Ytbpilecgnfnndaa
set_option linter.unusedSimpArgs false
set_option linter.unusedVariables false
open Go.ChangeShapes Go.WideShapes Go.ChangeAt Go.RowKit Go.BigFrame
theorem own_box {w : World} {base n size : Nat} {t : TypeId} {v : Value} {L : List Value} (h : w.ownsRow base t size v n L) {g : Nat} (hg : v.ownBlock = some g) : ∃ cur, w.heap[g]? = some (.cells cur t (0, 0)) := by
  rcases h.2 with ⟨rfl, _⟩ | ⟨g', cap, cur, rfl, _, hh, _⟩
  · simp [Value.ownBlock] at hg
  · simp [Value.ownBlock] at hg; subst hg; exact ⟨cur, hh⟩
theorem own_at {w : World} {base n cap size g : Nat} {t : TypeId} {L : List Value} (h : w.ownsRow base t size (.slice (some ⟨g, 0, none⟩) n cap) n L) {j : Nat} {u : Value} (hj : L[j]? = some u) : w.cell? ⟨g, j, none⟩ = some u := by
  have := h.cells (g := g) rfl j u hj
  by_cases h0 : j = 0
  · subst h0; simpa [Addr.add] using this
  · simpa [Addr.add, h0] using this
section
variable {w w' : World} {base n q : Nat} {T TF : TypeId} {v : Value} {rs : List ShR} {xs : List Shp} {r : ShR} {x : Shp}
theorem OwnShs.outerNe (h : OwnShs w base T TF v n rs xs) (hne : T ≠ TF) (hr : rs[q]? = some r) (hx : xs[q]? = some x) {b : Nat} (hb : (Value.slice r.a r.n r.cap).ownBlock = some b) : v.ownBlock ≠ some b := by
  intro e
  obtain ⟨c1, h1⟩ := own_box h.outer e
  obtain ⟨c2, h2⟩ := own_box (h.each q r x hr hx).2.2 hb
  rw [h1] at h2
  simp at h2
  exact hne h2.2
theorem OwnShs.outerKept (h : OwnShs w base T TF v n rs xs) (hne : T ≠ TF) (hr : rs[q]? = some r) (hx : xs[q]? = some x) (hg : w.grownBy w' (Value.slice r.a r.n r.cap).ownBlock) : w'.ownsRow base T 2 v n (rs.flatMap ShR.cs) := by
  cases hb : (Value.slice r.a r.n r.cap).ownBlock with
  | none =>
    refine h.outer.kept hg ?_
    rw [hb]
    cases hv : v.ownBlock with
    | none => exact .inl rfl
    | some g => exact .inr (by simp)
  | some b => exact h.outer.kept hg (.inr (by rw [hb]; exact h.outerNe hne hr hx hb))
theorem OwnShs.eachKept (h : OwnShs w base T TF v n rs xs) (hr : rs[q]? = some r) (hg : w.grownBy w' (Value.slice r.a r.n r.cap).ownBlock) {i : Nat} {s : ShR} {y : Shp} (hi : i ≠ q) (hs : rs[i]? = some s) (hy : xs[i]? = some y) : RowIs w' base TF s y := by
  obtain ⟨e1, e2, e3⟩ := h.each i s y hs hy
  refine ⟨e1, e2, e3.kept hg ?_⟩
  cases hb : (Value.slice s.a s.n s.cap).ownBlock with
  | none => exact .inl rfl
  | some b => exact .inr (fun e => h.apart i q s r hs hr hi b hb e.symm)
theorem OwnShs.row (h : OwnShs w base T TF v n rs xs) (hne : T ≠ TF) (hr : rs[q]? = some r) (hx : xs[q]? = some x) (hg : w.grownBy w' (Value.slice r.a r.n r.cap).ownBlock) {fs : List Fld} (hl : r.n = fs.length) (ho : w'.ownsRow base TF 5 (.slice r.a r.n r.cap) r.n (fs.flatMap Fld.cs)) :
    OwnShs w' base T TF v n rs (xs.set q ⟨x.id, fs⟩) := by
  refine ⟨h.len, by simp [h.lenx], h.outerKept hne hr hx hg, ?_, h.apart⟩
  intro i s y hs hy
  by_cases hi : q = i
  · subst hi
    rw [List.getElem?_set_self (List.getElem?_eq_some_iff.1 hx).1] at hy
    simp at hy; subst hy
    rw [hr] at hs; simp at hs; subst hs
    exact ⟨(h.each q r x hr hx).1, hl, ho⟩
  · rw [List.getElem?_set_ne hi] at hy
    exact h.eachKept hr hg (Ne.symm hi) hs hy
end
end Go.Proofs.Ytbpilecgnfnndaa

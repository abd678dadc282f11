/- Slices of strings: what the laws' own functions do with them; both Joined. -/
import Derived.Test.YtkmenljbajlneaaPut
import Derived.Lib.AppendStr
import Derived.Test.YtkmenljbajlneaaShelf
namespace Go.Proofs.Ytkmenljbajlneaa
set_option linter.unusedSimpArgs false
set_option linter.unusedVariables false
open Go.ChangeShapes Go.WideShapes Go.ChangeAt Go.RowKit Go.BigFrame

@[reducible] def sv (s : ByteArray) : List Value := [.string s]
@[reducible] def Strs := Sl 1 sv
theorem sv_len (e : ByteArray) : (sv e).length = 1 := rfl
theorem Strs.at {w : World} {a : Option Addr} {xs : List ByteArray} (h : Strs w a xs) {k : Nat} {e : ByteArray} (he : xs[k]? = some e) :
    ∃ b off, a = some ⟨b, off, none⟩ ∧ b < w.heap.size ∧ w.cell? ⟨b, off + k, none⟩ = some (.string e) := by
  obtain ⟨b, off, ha, hlt, hc⟩ := h k e he
  have h0 := hc 0 _ rfl
  simp only [Nat.mul_one, Nat.add_zero] at h0
  exact ⟨b, off, ha, hlt, h0⟩
theorem strs_of_own {w' : World} {base n cap : Nat} {a : Option Addr} {t : TypeId} {xs : List ByteArray} (h : w'.ownsRow base t 1 (.slice a n cap) n (xs.flatMap sv)) (hn : xs.length = n) : Strs w' a xs := by
  obtain ⟨a', cap', e, _, _, hs⟩ := Sl.of_owns sv_len h hn
  simp only [Value.slice.injEq] at e
  rw [e.1]; exact hs
def strSum (xs : List ByteArray) : Nat := (xs.map fun e => e.size).sum
def szT (n : Int) (xs : List ByteArray) : Int := if n < (xs.length : Int) + strSum xs then -1 else n - xs.length - strSum xs
theorem strSum_snoc {xs : List ByteArray} {k : Nat} {e : ByteArray} (he : xs[k]? = some e) : strSum (xs.take (k + 1)) = strSum (xs.take k) + e.size := by
  rw [List.take_add_one, he]; simp [strSum]
theorem strSum_take (xs : List ByteArray) (k : Nat) : strSum (xs.take k) ≤ strSum xs := by
  have : strSum xs = strSum (xs.take k) + strSum (xs.drop k) := by
    simp only [strSum, ← List.sum_append, ← List.map_append, List.take_append_drop]
  omega
set_option maxHeartbeats 2000000 in
theorem szStringS_any (a : Option Addr) (cap n : Nat) (xs : List ByteArray) (left : Int) (w : World) (h : Strs w a xs) (hok : ∀ e ∈ xs, e.size ≤ maxLen) (hx : xs.length = n) (hn : n ≤ maxLen) (h0 : 0 ≤ left) (h1 : left ≤ 1048576) :
    Calls Try.prog 30 #[.slice a n cap, .int .i64 left] w fun r w' => r = .returned (.int .i64 (szT left xs)) ∧ Below w.heap.size w w' := by
  unfold maxLen at hn
  have HX := Lib.hid hx; clear hx
  by_cases hl : left < n
  · have HS := Lib.hid (show szT left xs = -1 by simp only [szT]; rw [if_pos (by rw [HX.out]; omega)])
    go_enter Try.func30, Try.ntmps30
    go_wp2
    go_ret
    exact ⟨ret_int HS.out.symm, Below.refl _ _⟩
  · go_enter Try.func30, Try.ntmps30
    go_wp2
    go_loopw [1, 5] (fun t i wr => ∃ k : Nat, k ≤ n ∧ i = .int .i64 k ∧ (∃ m : Int, 0 ≤ m ∧ m ≤ 1048576 ∧ Hid (m = left - n - strSum (xs.take k)) ∧ t = .int .i64 m) ∧ Below w.heap.size w wr) (fun _ i _ => n - (intOf i).toNat)
    case atStart => exact ⟨0, Nat.zero_le _, rfl, ⟨_, by omega, by omega, Lib.hid (by simp [strSum]), rfl⟩, Below.refl _ _⟩
    case round =>
      obtain ⟨k, hk, rfl, ⟨m, hm0, hm1, HM, rfl⟩, hb⟩ := hrel
      by_cases hlt : k < n
      · obtain ⟨e, he, hem⟩ := at_lt (xs := xs) (k := k) (by rw [HX.out]; exact hlt)
        have HE := Lib.hid he
        obtain ⟨b, off, rfl, hlb, c0⟩ := Strs.at (h.below hb (Nat.le_refl _)) he
        have hts := Lib.hid (strSum_snoc he)
        have htt := Lib.hid (strSum_take xs (k + 1))
        clear he
        have hes := hok e hem
        unfold maxLen at hes
        have hz := hb.size
        by_cases hq : m < e.size
        · have hq1 : m - e.size < 0 := by omega
          have HS := Lib.hid (show szT left xs = -1 by simp only [szT]; rw [if_pos (by have := hts.out; have := htt.out; have := HM.out; have := HX.out; omega)])
          go_wp2
          go_ret
          exact ⟨ret_int HS.out.symm, by ((repeat (first | (with_reducible exact Below.refl _ _) | (with_reducible assumption) | (with_reducible refine Below.alloc ?_ ?_ _) | (with_reducible refine Below.setCell ?_ ?_ _) | (with_reducible refine Below.drew ?_) | (with_reducible refine below_setRow ?_ ?_ _) | (refine Below.trans ?_ (Below.mono (by assumption) ?_)))); all_goals (first | omega | (simp; done) | (simp; omega)))⟩
        · have hq2 : 0 ≤ m - e.size := by omega
          go_wp2
          go_roundw
          case rel => exact ⟨k + 1, by omega, by go_num, ⟨m - e.size, by omega, by omega, Lib.hid (by have := hts.out; have := HM.out; omega), rfl⟩, by ((repeat (first | (with_reducible exact Below.refl _ _) | (with_reducible assumption) | (with_reducible refine Below.alloc ?_ ?_ _) | (with_reducible refine Below.setCell ?_ ?_ _) | (with_reducible refine Below.drew ?_) | (with_reducible refine below_setRow ?_ ?_ _) | (refine Below.trans ?_ (Below.mono (by assumption) ?_)))); all_goals (first | omega | (simp; done) | (simp; omega)))⟩
          case measure => simp [intOf]; omega
      · have HS := Lib.hid (show szT left xs = m by have := HM.out; rw [List.take_of_length_le (by rw [HX.out]; omega)] at this; simp only [szT]; rw [HX.out, if_neg (by omega)]; omega)
        go_wp2
        go_ret
        exact ⟨ret_int HS.out.symm, hb⟩
theorem info_string : (Try.prog.info? 9).map (fun i => (i.zero, i.size, i.bytes)) = some (some (.string ⟨#[]⟩), 1, 16) := by kernel_rfl
theorem flatMap_take {α : Type} {cs : α → List Value} {xs : List α} {k : Nat} {e : α} (he : xs[k]? = some e) : (xs.take (k + 1)).flatMap cs = (xs.take k).flatMap cs ++ cs e := by
  rw [List.take_add_one, he]; simp
set_option maxRecDepth 100000 in
set_option maxHeartbeats 2000000 in
theorem toStringS_any (a : Option Addr) (cap n : Nat) (xs : List ByteArray) (w : World) (h : Strs w a xs) (hx : xs.length = n) (hn : n ≤ 1048576) :
    Calls Try.prog 32 #[.slice a n cap] w (FreshRow w 9 1 n (xs.flatMap sv)) := by
  have HX := Lib.hid hx; clear hx
  obtain ⟨i0, hi, hz0, hz1, hz2⟩ := info_parts info_string
  go_enter Try.func32, Try.ntmps32
  go_wp2_with (first | (at_make; refine wpList_make_full _ rfl _ _ 36 rfl w.heap.size 9 i0 _ 1 Try.underlying36 hi hz0 hz1 .i64 .i64 _ _ n rfl rfl rfl rfl (by rw [hz2]; omega) (by unfold maxLen; omega) (Nat.le_refl _) ?_; intro w1 hown hgrow))
  have hb0 : Below w.heap.size w w1 := (Below.refl _ _).grown hgrow (Nat.le_refl _) (by simp)
  clear hgrow
  have HOwn := Lib.hid hown
  clear hown
  go_loopw [4] (fun i wr => ∃ k : Nat, k ≤ n ∧ i = .int .i64 k ∧ (∃ L, wr.ownsRow w.heap.size 9 1 (.slice (some ⟨w.heap.size, 0, none⟩) n n) n L ∧ L.take k = (xs.take k).flatMap sv) ∧ Below w.heap.size w wr) (fun i _ => n - (intOf i).toNat)
  case atStart => exact ⟨0, Nat.zero_le _, rfl, ⟨_, HOwn.out, by simp⟩, hb0⟩
  case round =>
    obtain ⟨k, hk, rfl, ⟨L, ho, hT⟩, hb⟩ := hrel
    have HT := Lib.hid hT; clear hT
    have HO := Lib.hid ho; clear ho
    have hz := hb.size
    by_cases hlt : k < n
    · obtain ⟨e, he, _⟩ := at_lt (xs := xs) (k := k) (by rw [HX.out]; exact hlt)
      have HE := Lib.hid he
      obtain ⟨b, off, rfl, hlb, c0⟩ := Strs.at (h.below hb (Nat.le_refl _)) he
      clear he
      obtain ⟨u0, d0⟩ := owns_some HO.out k (by omega)
      have hfz : ∀ j, wr.frozen? ⟨w.heap.size, j, none⟩ = false := HO.out.frozenAt
      have hwr : w.heap.size < wr.heap.size := World.block_lt_of_cell? _ _ d0
      go_wp2
      go_roundw
      case rel => exact ⟨k + 1, by omega, by go_num, ⟨_, (HO.out.stored k (.string e)).1, by rw [row_snoc _ _ _ (by rw [HO.out.1]; omega), HT.out, flatMap_take HE.out]⟩, by ((repeat (first | (with_reducible exact Below.refl _ _) | (with_reducible assumption) | (with_reducible refine Below.alloc ?_ ?_ _) | (with_reducible refine Below.setCell ?_ ?_ _) | (with_reducible refine Below.drew ?_) | (with_reducible refine below_setRow ?_ ?_ _) | (refine Below.trans ?_ (Below.mono (by assumption) ?_)))); all_goals (first | omega | (simp; done) | (simp; omega)))⟩
      case measure => simp [intOf]; omega
    · obtain rfl : k = n := by omega
      have hL := Lib.hid (show L = xs.flatMap sv by
        have h1 := HT.out; rw [List.take_of_length_le (by rw [HO.out.1]; omega), List.take_of_length_le (Nat.le_of_eq HX.out)] at h1; exact h1)
      go_wp2
      go_ret
      exact ⟨_, _, rfl, by rw [← hL.out]; exact HO.out, hb⟩
set_option maxHeartbeats 2000000 in
theorem eqStringS_same (a a' : Option Addr) (cap cap' n : Nat) (xs : List ByteArray) (w : World) (h : Strs w a xs) (h' : Strs w a' xs) (hx : xs.length = n) (hn : n ≤ 1048577) :
    Calls Try.prog 25 #[.slice a n cap, .slice a' n cap'] w fun r w' => r = .returned (.bool true) ∧ Below w.heap.size w w' := by
  have HX := Lib.hid hx; clear hx
  go_enter Try.func25, Try.ntmps25
  go_wp2
  go_loopw [4, 5] (fun t i wr => ∃ k : Nat, k ≤ n ∧ i = .int .i64 k ∧ t = .bool false ∧ Below w.heap.size w wr) (fun _ i _ => n - (intOf i).toNat)
  case atStart => exact ⟨0, Nat.zero_le _, rfl, rfl, Below.refl _ _⟩
  case round =>
    obtain ⟨k, hk, rfl, rfl, hb⟩ := hrel
    have hz := hb.size
    by_cases hlt : k < n
    · obtain ⟨e, he, _⟩ := at_lt (xs := xs) (k := k) (by rw [HX.out]; exact hlt)
      obtain ⟨b, off, rfl, hlb, c0⟩ := Strs.at (h.below hb (Nat.le_refl _)) he
      obtain ⟨b', off', rfl, hlb', d0⟩ := Strs.at (h'.below hb (Nat.le_refl _)) he
      clear he
      go_wp2_with fail
      (refine wp_region_ext (by kernel_rfl) (by kernel_rfl) ?_; (repeat (go_big_quiet_step (fail))); refine wpQuiet_nil ?_; intro w1 hb1; obtain ⟨hc1, hf1⟩ := bcell hb1; have hz1 := hb1.size; (try simp only [World.size_alloc, World.size_setCell, World.size_drew] at hz1))
      go_wp2
      go_roundw
      case rel => exact ⟨k + 1, by omega, by go_num, rfl, by ((repeat (first | (with_reducible exact Below.refl _ _) | (with_reducible assumption) | (with_reducible refine Below.alloc ?_ ?_ _) | (with_reducible refine Below.setCell ?_ ?_ _) | (with_reducible refine Below.drew ?_) | (with_reducible refine below_setRow ?_ ?_ _) | (refine Below.trans ?_ (Below.mono (by assumption) ?_)))); all_goals (first | omega | (simp; done) | (simp; omega)))⟩
      case measure => simp [intOf]; omega
    · go_wp2
      go_ret
      exact ⟨rfl, hb⟩
/-! ### the chunks joined -/
def joinB (xs : List ByteArray) : List UInt8 := xs.flatMap fun s => s.data.toList
theorem joinB_snoc {xs : List ByteArray} {k : Nat} {e : ByteArray} (he : xs[k]? = some e) : joinB (xs.take (k + 1)) = joinB (xs.take k) ++ e.data.toList := by
  rw [List.take_add_one, he]; simp [joinB]
theorem joinB_len (xs : List ByteArray) : (joinB xs).length = strSum xs := by
  induction xs with
  | nil => rfl
  | cons x xs ih => simp only [joinB, strSum, List.flatMap_cons, List.length_append, List.map_cons, List.sum_cons] at *; rw [ih]; rfl
theorem join_nil_sep (xs : List ByteArray) : Lib.join (xs.map (·.data.toList)) (⟨#[]⟩ : ByteArray).data.toList = joinB xs := by
  induction xs with
  | nil => rfl
  | cons x xs ih =>
    cases xs with
    | nil => simp [joinB, Lib.join_one]
    | cons y ys =>
      simp only [List.map_cons, joinB, List.flatMap_cons] at *
      rw [← ih]
      simp [Lib.join, List.intercalate]
set_option maxRecDepth 100000 in
set_option maxHeartbeats 2000000 in
theorem specJoined_any (a : Option Addr) (cap n : Nat) (xs : List ByteArray) (w : World) (h : Strs w a xs) (hx : xs.length = n) (hn : n ≤ 1048576) (hm : strSum xs ≤ 1048576) :
    Calls Try.prog 31 #[.slice a n cap] w fun r w' => r = .returned (.string ⟨(joinB xs).toArray⟩) ∧ Below w.heap.size w w' := by
  have HX := Lib.hid hx; clear hx
  obtain ⟨i0, hi, hz0, hz1, hz2⟩ := info_parts info_u8
  go_enter Try.func31, Try.ntmps31
  go_wp2
  go_loopw [3, 4] (fun v i wr => ∃ k m : Nat, k ≤ n ∧ i = .int .i64 k ∧ Hid (m = strSum (xs.take k)) ∧ m ≤ 1048576 ∧ v ≠ .slice none 0 0 ∧ wr.ownsRow w.heap.size 5 1 v m (bv (joinB (xs.take k))) ∧ Below w.heap.size w wr) (fun _ i _ => n - (intOf i).toNat)
  case atStart => exact ⟨0, 0, Nat.zero_le _, rfl, Lib.hid (by simp [strSum]), by omega, by simp, ⟨by simp [joinB], .inr ⟨w.heap.size, 0, #[], rfl, Nat.le_refl _, heap_nth0 w _, Nat.le_refl _, Nat.zero_le _, rfl, rfl⟩⟩, by ((repeat (first | (with_reducible exact Below.refl _ _) | (with_reducible assumption) | (with_reducible refine Below.alloc ?_ ?_ _) | (with_reducible refine Below.setCell ?_ ?_ _) | (with_reducible refine Below.drew ?_) | (with_reducible refine below_setRow ?_ ?_ _) | (refine Below.trans ?_ (Below.mono (by assumption) ?_)))); all_goals (first | omega | (simp; done) | (simp; omega)))⟩
  case round =>
    obtain ⟨k, m, hk, rfl, HM, hm1, hnn, ho, hb⟩ := hrel
    have HN := Lib.hid hnn; clear hnn
    have HO := Lib.hid ho; clear ho
    have hz := hb.size
    by_cases hlt : k < n
    · obtain ⟨e, he, _⟩ := at_lt (xs := xs) (k := k) (by rw [HX.out]; exact hlt)
      have HE := Lib.hid he
      obtain ⟨b, off, rfl, hlb, c0⟩ := Strs.at (h.below hb (Nat.le_refl _)) he
      have hms : m + e.size ≤ 1048576 := by have h1 := strSum_snoc he; have h2 := strSum_take xs (k + 1); have h3 := HM.out; omega
      clear he
      go_wp2_with (first | (at_builtin; refine Lib.wpList_append_own_string _ rfl _ _ 47 9 rfl w.heap.size 5 i0 Try.underlying47 Try.underlying9 hi hz0 hz1 hz2 _ _ _ rfl HO.out e rfl (by unfold maxLen; omega) (by omega) (by omega) ?_; intro v1 w1 hown1 hgrow1 hnn1; have hb1 : Below w.heap.size w w1 := Below.grown hb hgrow1 (by omega) (fun g hg => (HO.out.lt g hg).1); clear hgrow1; have HN1 := Lib.hid (show v1 ≠ .slice none 0 0 from fun hq => HN.out (hnn1.1 hq).1); clear hnn1))
      go_roundw
      case rel => exact ⟨k + 1, m + e.size, by omega, by go_num, Lib.hid (by rw [strSum_snoc HE.out, HM.out]), hms, HN1.out, by rw [joinB_snoc HE.out, ← bv_append]; exact hown1, hb1⟩
      case measure => simp [intOf]; omega
    · have hL := Lib.hid (show xs.take k = xs from List.take_of_length_le (by rw [HX.out]; omega))
      have hstr := own_string0 HO.out HN.out Try.underlying47 Try.underlying5 Try.underlying9
      rw [hL.out] at hstr
      go_wp2
      go_ret
      exact ⟨rfl, hb⟩
theorem implJoined_any (a : Option Addr) (cap n : Nat) (xs : List ByteArray) (w : World) (h : Strs w a xs) (hx : xs.length = n) (hc : n ≤ cap) (hn : n ≤ 1048576) (hm : strSum xs ≤ 1048576) :
    Calls Try.prog 33 #[.slice a n cap] w fun r w' => r = .returned (.string ⟨(joinB xs).toArray⟩) ∧ Below w.heap.size w w' := by
  subst hx
  have hj := join_nil_sep xs
  by_cases h0 : xs = []
  · subst h0
    go_enter Try.func33, Try.ntmps33
    go_wp2_with fail
    refine (Try.strings_Join_none _ _ _ _).mono ?_
    rintro r w1 ⟨rfl, rfl⟩
    go_wp2
    go_ret
    exact ⟨rfl, by ((repeat (first | (with_reducible exact Below.refl _ _) | (with_reducible assumption) | (with_reducible refine Below.alloc ?_ ?_ _) | (with_reducible refine Below.setCell ?_ ?_ _) | (with_reducible refine Below.drew ?_) | (with_reducible refine below_setRow ?_ ?_ _) | (refine Below.trans ?_ (Below.mono (by assumption) ?_)))); all_goals (first | omega | (simp; done) | (simp; omega)))⟩
  · obtain ⟨e, he⟩ : ∃ e, xs[0]? = some e := by cases xs with | nil => exact absurd rfl h0 | cons x xs => exact ⟨x, rfl⟩
    obtain ⟨b, off, rfl, hlb, _⟩ := Strs.at h he
    clear he
    have hcells : ∀ (j : Nat) x, xs[j]? = some x → w.cell? ⟨b, off + j, none⟩ = some (.string x) := fun j x hx => by
      obtain ⟨b', off', ha, _, hc⟩ := Strs.at h hx
      simp only [Option.some.injEq, Addr.mk.injEq] at ha
      obtain ⟨rfl, rfl, _⟩ := ha
      exact hc
    have HC := Lib.hid hcells; clear hcells
    have HJ := Lib.hid hj; clear hj
    go_enter Try.func33, Try.ntmps33
    go_wp2_with fail
    refine (Try.strings_Join b off cap xs ⟨#[]⟩ w HC.out hlb (by omega) hc (by rw [HJ.out, joinB_len]; omega)).mono ?_
    rintro r w1 ⟨rfl, hb1⟩
    rw [HJ.out]
    go_wp2
    go_ret
    exact ⟨rfl, hb1⟩
/-! ### a slice of strings that came in -/
section
variable {H : Type} {enc : TypeId × Value → H} {W : World} {base : Nat} {sp : Nat → Bool} {v : Value} {d : DataW H} {ps : List MemPlace}
theorem flat_strs : flat Try.prog 9 36 = some [.sl [CK.str]] := by kernel_rfl
theorem cells_strs : Try.prog.cellsOf 36 = 1 := by kernel_rfl
set_option maxRecDepth 100000 in
theorem openStrs (hv : Value.okWide Try.prog W .any base 36 v) (h : DataW.Trod enc Try.prog W 0 sp true 36 v d ps) : ∃ x : SlArg ByteArray, v = x.val ∧ x.ok 1 sv (fun s => s.size ≤ maxLen) W := by
  obtain ⟨a0, len, cap, rfl⟩ := okWide_slice Try.underlying36 hv
  obtain ⟨x, hx, hk⟩ := flat_trod flat_strs cells_strs h 0 _ rfl
  simp only [Value.cells, List.getElem?_cons_zero, Option.some.injEq] at hx
  subst hx
  exact sl_open (hk 2) rfl (by omega) sv_len fun l hl hj => by
    match l, hl with
    | [c0], _ =>
      obtain ⟨x0, e0, h0⟩ := hj 0 _ rfl
      obtain ⟨s, rfl, hs⟩ := ok_str h0
      simp at e0
      exact ⟨s, by simp [sv, e0], hs⟩
end
end Go.Proofs.Ytkmenljbajlneaa

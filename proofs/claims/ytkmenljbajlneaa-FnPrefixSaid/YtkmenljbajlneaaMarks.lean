/- Slices of strings and of numbers: marking, and looking at the marks. -/
import Derived.Test.YtkmenljbajlneaaMark
import Derived.Test.YtkmenljbajlneaaStrs
namespace Go.Proofs.Ytkmenljbajlneaa
set_option linter.unusedSimpArgs false
set_option linter.unusedVariables false
open Go.ChangeShapes Go.WideShapes Go.ChangeAt Go.RowKit Go.BigFrame

def marksS (k n : Nat) : List Value := (List.range n).map fun i => .string (mt (k + i))
theorem marksS_succ (k n : Nat) : marksS k (n + 1) = marksS k n ++ [.string (mt (k + n))] := by simp [marksS, List.range_succ]
theorem marksS_len (k n : Nat) : (marksS k n).length = n := by simp [marksS]
theorem marksS_at (k n j : Nat) (hj : j < n) : (marksS k n)[j]? = some (.string (mt (k + j))) := by simp [marksS, hj]
set_option maxRecDepth 100000 in
set_option maxHeartbeats 1000000 in
theorem markStringS_any (a : Option Addr) (cap n : Nat) (L : List Value) (k : Nat) (lo hi : Nat) (w : World) (ho : OwnR w lo hi a n L) (hn : n ≤ 2097152) (h0 : 0 < k) (hk : k ≤ 1000000) :
    Calls Try.prog 28 #[.slice a n cap, .int .i64 k] w fun r w' => r = .returned (.int .i64 ((k : Int) + n)) ∧ OwnR w' lo hi a n (marksS k n) ∧ Chg lo hi w w' := by
  have HO0 := Lib.hid ho; clear ho
  go_enter Try.func28, Try.ntmps28
  go_wp2
  go_loopw [1, 5] (fun q i wr => ∃ j : Nat, j ≤ n ∧ i = .int .i64 j ∧ q = .int .i64 ((k : Int) + j) ∧ (∃ L', OwnR wr lo hi a n L' ∧ L'.take j = marksS k j) ∧ Chg lo hi w wr) (fun _ i _ => n - (intOf i).toNat)
  case atStart => exact ⟨0, Nat.zero_le _, rfl, by simp, ⟨_, HO0.out, by simp [marksS]⟩, Chg.refl _ _ _⟩
  case round =>
    obtain ⟨j, hj, rfl, rfl, ⟨L', ho, hT⟩, hc⟩ := hrel
    have HT := Lib.hid hT; clear hT
    by_cases hlt : j < n
    · have HO := Lib.hid ho
      have HC := Lib.hid hc; clear hc
      have hlen := ho.len
      rcases ho.own with h' | ⟨g, rfl, h1, h2, h3, h4, h5⟩
      · omega
      have d0 := h4 j L'[j] (List.getElem?_eq_getElem (by omega))
      clear h4 ho
      go_wp2_with (first | (go_at_call 73; refine (markText_any _ (k + j) (by simp) _ (by omega) (by omega)).mono ?_; rintro r w2 ⟨rfl, hb2⟩; obtain ⟨hc2, hf2⟩ := bcell hb2; have hz2 := hb2.size; (try simp only [World.size_alloc, World.size_setCell, World.size_drew] at hz2)))
      go_roundw
      case rel => exact ⟨j + 1, by omega, by go_num, by go_num, ⟨_, (HO.out.keep hb2).store hlt _, by rw [row_snoc _ _ _ (by omega), HT.out, marksS_succ]⟩, (HC.out.trans (Chg.of_below hb2)).trans (Chg.setCell h1 h2 _)⟩
      case measure => simp [intOf]; omega
    · have hjn : j = n := by omega
      subst hjn
      have hL := Lib.hid (show L' = marksS k j by have h1 := HT.out; rw [List.take_of_length_le (by rw [ho.len]; omega)] at h1; exact h1)
      have HO := Lib.hid ho; clear ho
      have HC := Lib.hid hc; clear hc
      go_wp2
      go_ret
      exact ⟨rfl, by rw [← hL.out]; exact HO.out, HC.out⟩
set_option maxRecDepth 100000 in
set_option maxHeartbeats 1000000 in
theorem heldStringS_any (a : Option Addr) (cap n : Nat) (k : Nat) (lo hi : Nat) (w : World) (ho : OwnR w lo hi a n (marksS k n)) (hn : n ≤ 2097152) (h0 : 0 < k) (hk : k ≤ 1000000) :
    Calls Try.prog 29 #[.slice a n cap, .int .i64 k] w fun r w' => r = .returned (.int .i64 ((k : Int) + n)) ∧ Below w.heap.size w w' := by
  have HO := Lib.hid ho; clear ho
  go_enter Try.func29, Try.ntmps29
  go_wp2
  go_loopw [1, 5] (fun q i wr => ∃ j : Nat, j ≤ n ∧ i = .int .i64 j ∧ q = .int .i64 ((k : Int) + j) ∧ Below w.heap.size w wr) (fun _ i _ => n - (intOf i).toNat)
  case atStart => exact ⟨0, Nat.zero_le _, rfl, by simp, Below.refl _ _⟩
  case round =>
    obtain ⟨j, hj, rfl, rfl, hb⟩ := hrel
    have hz := hb.size
    by_cases hlt : j < n
    · rcases (HO.out.keep hb).own with h' | ⟨g, rfl, h1, h2, h3, h4, h5⟩
      · omega
      have d0 := h4 j _ (marksS_at k n j hlt)
      clear h4
      go_wp2_with fail
      (refine wp_region_ext (by kernel_rfl) (by kernel_rfl) ?_; (repeat (go_big_quiet_step (first | (go_at_call 73; refine Calls.ext_of (markText_any _ (k + j) (by simp) _ (by omega) (by omega)))))); refine wpQuiet_nil ?_; intro w1 hb1; obtain ⟨hc1, hf1⟩ := bcell hb1; have hz1 := hb1.size; (try simp only [World.size_alloc, World.size_setCell, World.size_drew] at hz1))
      go_wp2
      go_roundw
      case rel => exact ⟨j + 1, by omega, by go_num, by go_num, by ((repeat (first | (with_reducible exact Below.refl _ _) | (with_reducible assumption) | (with_reducible refine Below.alloc ?_ ?_ _) | (with_reducible refine Below.setCell ?_ ?_ _) | (with_reducible refine Below.drew ?_) | (with_reducible refine below_setRow ?_ ?_ _) | (refine Below.trans ?_ (Below.mono (by assumption) ?_)))); all_goals (first | omega | (simp; done) | (simp; omega)))⟩
      case measure => simp [intOf]; omega
    · have hjn : j = n := by omega
      subst hjn
      go_wp2
      go_ret
      exact ⟨rfl, hb⟩

def marksI (k n : Nat) : List Value := (List.range n).map fun i => .int .i64 ((k : Int) + (i : Nat))
theorem marksI_succ (k n : Nat) : marksI k (n + 1) = marksI k n ++ [.int .i64 ((k : Int) + (n : Nat))] := by simp [marksI, List.range_succ]
theorem marksI_len (k n : Nat) : (marksI k n).length = n := by simp [marksI]
theorem marksI_at (k n j : Nat) (hj : j < n) : (marksI k n)[j]? = some (.int .i64 ((k : Int) + (j : Nat))) := by simp [marksI, hj]
set_option maxRecDepth 100000 in
set_option maxHeartbeats 1000000 in
theorem markIntS_any (a : Option Addr) (cap n : Nat) (L : List Value) (k : Nat) (lo hi : Nat) (w : World) (ho : OwnR w lo hi a n L) (hn : n ≤ 2097152) (h0 : 0 < k) (hk : k ≤ 1000000) :
    Calls Try.prog 27 #[.slice a n cap, .int .i64 k] w fun r w' => r = .returned (.int .i64 ((k : Int) + n)) ∧ OwnR w' lo hi a n (marksI k n) ∧ Chg lo hi w w' := by
  have HO0 := Lib.hid ho; clear ho
  go_enter Try.func27, Try.ntmps27
  go_wp2
  go_loopw [1, 5] (fun q i wr => ∃ j : Nat, j ≤ n ∧ i = .int .i64 j ∧ q = .int .i64 ((k : Int) + j) ∧ (∃ L', OwnR wr lo hi a n L' ∧ L'.take j = marksI k j) ∧ Chg lo hi w wr) (fun _ i _ => n - (intOf i).toNat)
  case atStart => exact ⟨0, Nat.zero_le _, rfl, by simp, ⟨_, HO0.out, by simp [marksI]⟩, Chg.refl _ _ _⟩
  case round =>
    obtain ⟨j, hj, rfl, rfl, ⟨L', ho, hT⟩, hc⟩ := hrel
    have HT := Lib.hid hT; clear hT
    by_cases hlt : j < n
    · have HO := Lib.hid ho
      have HC := Lib.hid hc; clear hc
      have hlen := ho.len
      rcases ho.own with h' | ⟨g, rfl, h1, h2, h3, h4, h5⟩
      · omega
      have d0 := h4 j L'[j] (List.getElem?_eq_getElem (by omega))
      clear h4 ho
      go_wp2_with (first | fail)
      go_roundw
      case rel => exact ⟨j + 1, by omega, by go_num, by go_num, ⟨_, HO.out.store hlt _, by rw [row_snoc _ _ _ (by omega), HT.out, marksI_succ]⟩, HC.out.trans (Chg.setCell h1 h2 _)⟩
      case measure => simp [intOf]; omega
    · have hjn : j = n := by omega
      subst hjn
      have hL := Lib.hid (show L' = marksI k j by have h1 := HT.out; rw [List.take_of_length_le (by rw [ho.len]; omega)] at h1; exact h1)
      have HO := Lib.hid ho; clear ho
      have HC := Lib.hid hc; clear hc
      go_wp2
      go_ret
      exact ⟨rfl, by rw [← hL.out]; exact HO.out, HC.out⟩

/-! ### slices of numbers -/
@[reducible] def iv (s : Int) : List Value := [.int .i64 s]
@[reducible] def Ints := Sl 1 iv
theorem iv_len (e : Int) : (iv e).length = 1 := rfl
theorem Ints.at {w : World} {a : Option Addr} {xs : List Int} (h : Ints w a xs) {k : Nat} {e : Int} (he : xs[k]? = some e) :
    ∃ b off, a = some ⟨b, off, none⟩ ∧ b < w.heap.size ∧ w.cell? ⟨b, off + k, none⟩ = some (.int .i64 e) := by
  obtain ⟨b, off, ha, hlt, hc⟩ := h k e he
  have h0 := hc 0 _ rfl
  simp only [Nat.mul_one, Nat.add_zero] at h0
  exact ⟨b, off, ha, hlt, h0⟩
theorem ints_of_own {w' : World} {base n cap : Nat} {a : Option Addr} {t : TypeId} {xs : List Int} (h : w'.ownsRow base t 1 (.slice a n cap) n (xs.flatMap iv)) (hn : xs.length = n) : Ints w' a xs := by
  obtain ⟨a', cap', e, _, _, hs⟩ := Sl.of_owns iv_len h hn
  simp only [Value.slice.injEq] at e
  rw [e.1]; exact hs
theorem info_int : (Try.prog.info? 3).map (fun i => (i.zero, i.size, i.bytes)) = some (some (.int .i64 0), 1, 8) := by kernel_rfl
set_option maxRecDepth 100000 in
set_option maxHeartbeats 2000000 in
theorem toIntS_any (a : Option Addr) (cap n : Nat) (xs : List Int) (w : World) (h : Ints w a xs) (hx : xs.length = n) (hn : n ≤ 1048576) :
    Calls Try.prog 23 #[.slice a n cap] w (FreshRow w 3 1 n (xs.flatMap iv)) := by
  have HX := Lib.hid hx; clear hx
  obtain ⟨i0, hi, hz0, hz1, hz2⟩ := info_parts info_int
  go_enter Try.func23, Try.ntmps23
  go_wp2_with (first | (at_make; refine wpList_make_full _ rfl _ _ 35 rfl w.heap.size 3 i0 _ 1 Try.underlying35 hi hz0 hz1 .i64 .i64 _ _ n rfl rfl rfl rfl (by rw [hz2]; omega) (by unfold maxLen; omega) (Nat.le_refl _) ?_; intro w1 hown hgrow))
  have hb0 : Below w.heap.size w w1 := (Below.refl _ _).grown hgrow (Nat.le_refl _) (by simp)
  clear hgrow
  have HOwn := Lib.hid hown
  clear hown
  go_loopw [4] (fun i wr => ∃ k : Nat, k ≤ n ∧ i = .int .i64 k ∧ (∃ L, wr.ownsRow w.heap.size 3 1 (.slice (some ⟨w.heap.size, 0, none⟩) n n) n L ∧ L.take k = (xs.take k).flatMap iv) ∧ Below w.heap.size w wr) (fun i _ => n - (intOf i).toNat)
  case atStart => exact ⟨0, Nat.zero_le _, rfl, ⟨_, HOwn.out, by simp⟩, hb0⟩
  case round =>
    obtain ⟨k, hk, rfl, ⟨L, ho, hT⟩, hb⟩ := hrel
    have HT := Lib.hid hT; clear hT
    have HO := Lib.hid ho; clear ho
    have hz := hb.size
    by_cases hlt : k < n
    · obtain ⟨e, he, _⟩ := at_lt (xs := xs) (k := k) (by rw [HX.out]; exact hlt)
      have HE := Lib.hid he
      obtain ⟨b, off, rfl, hlb, c0⟩ := Ints.at (h.below hb (Nat.le_refl _)) he
      clear he
      obtain ⟨u0, d0⟩ := owns_some HO.out k (by omega)
      have hfz : ∀ j, wr.frozen? ⟨w.heap.size, j, none⟩ = false := HO.out.frozenAt
      have hwr : w.heap.size < wr.heap.size := World.block_lt_of_cell? _ _ d0
      go_wp2
      go_roundw
      case rel => exact ⟨k + 1, by omega, by go_num, ⟨_, (HO.out.stored k (.int .i64 e)).1, by rw [row_snoc _ _ _ (by rw [HO.out.1]; omega), HT.out, flatMap_take HE.out]⟩, by ((repeat (first | (with_reducible exact Below.refl _ _) | (with_reducible assumption) | (with_reducible refine Below.alloc ?_ ?_ _) | (with_reducible refine Below.setCell ?_ ?_ _) | (with_reducible refine Below.drew ?_) | (with_reducible refine below_setRow ?_ ?_ _) | (refine Below.trans ?_ (Below.mono (by assumption) ?_)))); all_goals (first | omega | (simp; done) | (simp; omega)))⟩
      case measure => simp [intOf]; omega
    · obtain rfl : k = n := by omega
      have hL := Lib.hid (show L = xs.flatMap iv by
        have h1 := HT.out; rw [List.take_of_length_le (by rw [HO.out.1]; omega), List.take_of_length_le (Nat.le_of_eq HX.out)] at h1; exact h1)
      go_wp2
      go_ret
      exact ⟨_, _, rfl, by rw [← hL.out]; exact HO.out, hb⟩
set_option maxHeartbeats 2000000 in
theorem eqIntS_same (a a' : Option Addr) (cap cap' n : Nat) (xs : List Int) (w : World) (h : Ints w a xs) (h' : Ints w a' xs) (hx : xs.length = n) (hn : n ≤ 1048576) :
    Calls Try.prog 26 #[.slice a n cap, .slice a' n cap'] w fun r w' => r = .returned (.bool true) ∧ Below w.heap.size w w' := by
  have HX := Lib.hid hx; clear hx
  go_enter Try.func26, Try.ntmps26
  go_wp2
  go_loopw [4, 5] (fun t i wr => ∃ k : Nat, k ≤ n ∧ i = .int .i64 k ∧ t = .bool false ∧ Below w.heap.size w wr) (fun _ i _ => n - (intOf i).toNat)
  case atStart => exact ⟨0, Nat.zero_le _, rfl, rfl, Below.refl _ _⟩
  case round =>
    obtain ⟨k, hk, rfl, rfl, hb⟩ := hrel
    have hz := hb.size
    by_cases hlt : k < n
    · obtain ⟨e, he, _⟩ := at_lt (xs := xs) (k := k) (by rw [HX.out]; exact hlt)
      obtain ⟨b, off, rfl, hlb, c0⟩ := Ints.at (h.below hb (Nat.le_refl _)) he
      obtain ⟨b', off', rfl, hlb', d0⟩ := Ints.at (h'.below hb (Nat.le_refl _)) he
      clear he
      go_wp2_with fail
      (refine wp_region_ext (by kernel_rfl) (by kernel_rfl) ?_; (repeat (go_big_quiet_step (fail))); refine wpQuiet_nil ?_; intro w1 hb1; obtain ⟨hc1, hf1⟩ := bcell hb1; have hz1 := hb1.size; (try simp only [World.size_alloc, World.size_setCell, World.size_drew] at hz1))
      go_wp2
      go_roundw
      case rel => exact ⟨k + 1, by omega, by go_num, rfl, by ((repeat (first | (with_reducible exact Below.refl _ _) | (with_reducible assumption) | (with_reducible refine Below.alloc ?_ ?_ _) | (with_reducible refine Below.setCell ?_ ?_ _) | (with_reducible refine Below.drew ?_) | (with_reducible refine below_setRow ?_ ?_ _) | (refine Below.trans ?_ (Below.mono (by assumption) ?_)))); all_goals (first | omega | (simp; done) | (simp; omega)))⟩
      case measure => simp [intOf]; omega
    · go_wp2
      go_ret
      exact ⟨rfl, hb⟩
section
variable {H : Type} {enc : TypeId × Value → H} {W : World} {base : Nat} {sp : Nat → Bool} {v : Value} {d : DataW H} {ps : List MemPlace}
theorem flat_ints : flat Try.prog 9 35 = some [.sl [CK.int .i64]] := by kernel_rfl
theorem cells_ints : Try.prog.cellsOf 35 = 1 := by kernel_rfl
set_option maxRecDepth 100000 in
theorem openInts (hv : Value.okWide Try.prog W .any base 35 v) (h : DataW.Trod enc Try.prog W 0 sp true 35 v d ps) : ∃ x : SlArg Int, v = x.val ∧ x.ok 1 iv W64 W := by
  obtain ⟨a0, len, cap, rfl⟩ := okWide_slice Try.underlying35 hv
  obtain ⟨x, hx, hk⟩ := flat_trod flat_ints cells_ints h 0 _ rfl
  simp only [Value.cells, List.getElem?_cons_zero, Option.some.injEq] at hx
  subst hx
  exact sl_open (hk 2) rfl (by omega) iv_len fun l hl hj => by
    match l, hl with
    | [c0], _ =>
      obtain ⟨x0, e0, h0⟩ := hj 0 _ rfl
      obtain ⟨s, rfl, hs⟩ := ok_int h0
      simp at e0
      exact ⟨s, by simp [iv, e0], hs⟩
end
end Go.Proofs.Ytkmenljbajlneaa

/- Slices of events: marking, and looking at the marks. -/
import Derived.Test.YtigmdaiecdoimaaMark
namespace Go.Proofs.Ytigmdaiecdoimaa
set_option linter.unusedSimpArgs false
set_option linter.unusedVariables false
open Go.ChangeShapes Go.WideShapes Go.ChangeAt Go.RowKit Go.BigFrame

theorem OwnR.of_ownsK {w : World} {base n cap size : Nat} {t : TypeId} {a : Option Addr} {L : List Value} (h : w.ownsRow base t size (.slice a n cap) n L) : OwnR w base w.heap.size a (n * size) L := by
  refine ⟨h.1, ?_⟩
  have hl := h.lt
  have hc : ∀ g, (Value.slice a n cap).ownBlock = some g → _ := fun g hg => World.ownsRow.cells h hg
  rcases h.2 with ⟨e, h0⟩ | ⟨g, cap', cur, e, hb, hh, _⟩
  · exact .inl (by rw [h0]; omega)
  · simp only [Value.slice.injEq] at e
    obtain ⟨rfl, _, rfl⟩ := e
    have h1 := hl g rfl
    exact .inr ⟨g, rfl, h1.1, h1.2, h1.2, fun j u hu => by have := hc g rfl j u hu; rwa [Addr.add_lit, Nat.zero_add] at this, h.frozenAt⟩
theorem OwnR.slK {α : Type} {cs : α → List Value} {sz : Nat} {w : World} {lo hi n : Nat} {a : Option Addr} {xs : List α} (hsz : 0 < sz) (hcs : ∀ x, (cs x).length = sz) (h : OwnR w lo hi a (n * sz) (xs.flatMap cs)) : Sl sz cs w a xs := by
  intro k e he
  have hk : k < xs.length := by
    rcases Nat.lt_or_ge k xs.length with h' | h'
    · exact h'
    · rw [List.getElem?_eq_none h'] at he; simp at he
  have hlen := h.len
  rw [flatMap_len hcs] at hlen
  rcases h.own with h0 | ⟨g, ha, h1, h2, h3, h4, h5⟩
  · have : 0 < xs.length * sz := Nat.mul_pos (by omega) hsz
    omega
  · refine ⟨g, 0, ha, h3, fun j u hu => ?_⟩
    have hj : j < sz := by
      rcases Nat.lt_or_ge j sz with h' | h'
      · exact h'
      · rw [List.getElem?_eq_none (by rw [hcs]; exact h')] at hu; simp at hu
    have := h4 (k * sz + j) u (by rw [flatMap_at hcs xs k j e he hj]; exact hu)
    simpa using this
def markE (q : Nat) : List Value := [.int .i64 (q : Int), .int .i64 ((q : Int) + 1), .int .u64 ((q : Int) + 1 + 1), .int .i64 ((q : Int) + 1 + 1 + 1), .string (mt (q + 4)), .int .i64 ((q : Int) + 1 + 1 + 1 + 1 + 1), .int .i64 ((q : Int) + 1 + 1 + 1 + 1 + 1 + 1)]
def marksE (k n : Nat) : List Value := (List.range n).flatMap fun i => markE (k + 7 * i)
theorem markE_len (q : Nat) : (markE q).length = 7 := rfl
theorem marksE_succ (k n : Nat) : marksE k (n + 1) = marksE k n ++ markE (k + 7 * n) := by simp [marksE, List.range_succ]
theorem marksE_len (k n : Nat) : (marksE k n).length = n * 7 := by
  induction n with
  | zero => rfl
  | succ n ih => rw [marksE_succ, List.length_append, ih, markE_len]; omega
theorem marksE_at (k n j i : Nat) (hj : j < n) (hi : i < 7) : (marksE k n)[j * 7 + i]? = (markE (k + 7 * j))[i]? := by
  induction n with
  | zero => omega
  | succ n ih =>
    rw [marksE_succ]
    by_cases hjn : j < n
    · rw [List.getElem?_append_left (by rw [marksE_len]; omega)]; exact ih hjn
    · obtain rfl : j = n := by omega
      rw [List.getElem?_append_right (by rw [marksE_len]; omega), marksE_len]
      congr 1; omega
set_option maxRecDepth 100000 in
set_option maxHeartbeats 2000000 in
theorem markEventS_any (a : Option Addr) (cap n : Nat) (L : List Value) (k : Nat) (lo hi : Nat) (w : World) (ho : OwnR w lo hi a (n * 7) L) (hn : n ≤ 2097152) (h0 : 0 < k) (hk : k ≤ 100000000) :
    Calls Try.prog 46 #[.slice a n cap, .int .i64 k] w fun r w' => r = .returned (.int .i64 ((k : Int) + 7 * n)) ∧ OwnR w' lo hi a (n * 7) (marksE k n) ∧ Chg lo hi w w' := by
  have HO0 := Lib.hid ho; clear ho
  go_enter Try.func46, Try.ntmps46
  go_wp2
  go_loopw [1, 5] (fun t i wr => ∃ j q : Nat, j ≤ n ∧ i = .int .i64 j ∧ t = .int .i64 q ∧ Hid (q = k + 7 * j) ∧ q ≤ 160000000 ∧ 0 < q ∧ (∃ L', OwnR wr lo hi a (n * 7) L' ∧ L'.take (j * 7) = marksE k j) ∧ Chg lo hi w wr) (fun _ i _ => n - (intOf i).toNat)
  case atStart => exact ⟨0, k, Nat.zero_le _, rfl, rfl, Lib.hid (by omega), by omega, h0, ⟨_, HO0.out, by simp [marksE]⟩, Chg.refl _ _ _⟩
  case round =>
    obtain ⟨j, q, hj, rfl, rfl, HQ, hq, hq0, ⟨L', ho, hT⟩, hc⟩ := hrel
    have HT := Lib.hid hT; clear hT
    by_cases hlt : j < n
    · have HO := Lib.hid ho
      have HC := Lib.hid hc; clear hc
      have hlen := ho.len
      rcases ho.own with h' | ⟨g, rfl, h1, h2, h3, h4, h5⟩
      · omega
      have d0 := h4 (j * 7) L'[j * 7] (List.getElem?_eq_getElem (by omega))
      have d1 := h4 (j * 7 + 1) L'[j * 7 + 1] (List.getElem?_eq_getElem (by omega))
      have d2 := h4 (j * 7 + 2) L'[j * 7 + 2] (List.getElem?_eq_getElem (by omega))
      have d3 := h4 (j * 7 + 3) L'[j * 7 + 3] (List.getElem?_eq_getElem (by omega))
      have d4 := h4 (j * 7 + 4) L'[j * 7 + 4] (List.getElem?_eq_getElem (by omega))
      have d5 := h4 (j * 7 + 5) L'[j * 7 + 5] (List.getElem?_eq_getElem (by omega))
      have d6 := h4 (j * 7 + 6) L'[j * 7 + 6] (List.getElem?_eq_getElem (by omega))
      clear h4 ho
      go_wp2_with (first | (go_at_call 117; refine (markText_any _ (q + 4) (by omega) _ (by omega) (by omega)).mono ?_; rintro r w2 ⟨rfl, hb2⟩; obtain ⟨hc2, hf2⟩ := bcell hb2; have hz2 := hb2.size; (try simp only [World.size_alloc, World.size_setCell, World.size_drew] at hz2)))
      go_roundw
      case rel =>
        have hl7 : j * 7 + 7 ≤ n * 7 := by omega
        have hq7 : q + 7 ≤ 160000000 := by have := HQ.out; omega
        refine ⟨j + 1, q + 7, by omega, by go_num, by go_num, Lib.hid (by have := HQ.out; omega), hq7, by omega, ⟨setRow L' (j * 7) (markE q), ?_, ?_⟩, ?_⟩
        · exact ((((((((HO.out.store (j := j * 7) (by omega) _).store (j := j * 7 + 1) (by omega) _).store (j := j * 7 + 2) (by omega) _).store (j := j * 7 + 3) (by omega) _).keep hb2).store (j := j * 7 + 4) (by omega) _).store (j := j * 7 + 5) (by omega) _).store (j := j * 7 + 6) (by omega) _)
        · rw [show (j + 1) * 7 = j * 7 + (markE q).length from by rw [markE_len]; omega, setRow_take (markE q) L' (j * 7) (by rw [markE_len, hlen]; omega), HT.out, marksE_succ, ← HQ.out]
        · exact (((((((HC.out.trans (Chg.setCell h1 h2 _)).trans (Chg.setCell h1 h2 _)).trans (Chg.setCell h1 h2 _)).trans (Chg.setCell h1 h2 _)).trans (Chg.of_below hb2)).trans (Chg.setCell h1 h2 _)).trans (Chg.setCell h1 h2 _)).trans (Chg.setCell h1 h2 _)
      case measure => simp [intOf]; omega
    · have hjn : j = n := by omega
      subst hjn
      have hL := Lib.hid (show L' = marksE k j by have h1 := HT.out; rw [List.take_of_length_le (by rw [ho.len]; omega)] at h1; exact h1)
      have HO := Lib.hid ho; clear ho
      have HC := Lib.hid hc; clear hc
      go_wp2
      go_ret
      exact ⟨ret_int (by have := HQ.out; omega), by rw [← hL.out]; exact HO.out, HC.out⟩
set_option maxRecDepth 100000 in
set_option maxHeartbeats 2000000 in
theorem heldEventS_any (a : Option Addr) (cap n : Nat) (k : Nat) (lo hi : Nat) (w : World) (ho : OwnR w lo hi a (n * 7) (marksE k n)) (hn : n ≤ 2097152) (h0 : 0 < k) (hk : k ≤ 100000000) :
    Calls Try.prog 48 #[.slice a n cap, .int .i64 k] w fun r w' => r = .returned (.int .i64 ((k : Int) + 7 * n)) ∧ Below w.heap.size w w' := by
  have HO := Lib.hid ho; clear ho
  go_enter Try.func48, Try.ntmps48
  go_wp2
  go_loopw [1, 5] (fun t i wr => ∃ j q : Nat, j ≤ n ∧ i = .int .i64 j ∧ t = .int .i64 q ∧ Hid (q = k + 7 * j) ∧ q ≤ 160000000 ∧ 0 < q ∧ Below w.heap.size w wr) (fun _ i _ => n - (intOf i).toNat)
  case atStart => exact ⟨0, k, Nat.zero_le _, rfl, rfl, Lib.hid (by omega), by omega, h0, Below.refl _ _⟩
  case round =>
    obtain ⟨j, q, hj, rfl, rfl, HQ, hq, hq0, hb⟩ := hrel
    have hz := hb.size
    by_cases hlt : j < n
    · rcases (HO.out.keep hb).own with h' | ⟨g, rfl, h1, h2, h3, h4, h5⟩
      · omega
      have hm : ∀ (i : Nat) (u : Value), i < 7 → (markE q)[i]? = some u → wr.cell? ⟨g, j * 7 + i, none⟩ = some u := fun i u hi hu => h4 (j * 7 + i) u (by rw [marksE_at k n j i hlt hi, ← HQ.out]; exact hu)
      have d0 : wr.cell? ⟨g, j * 7, none⟩ = _ := hm 0 _ (by omega) rfl
      have d1 := hm 1 _ (by omega) rfl
      have d2 := hm 2 _ (by omega) rfl
      have d3 := hm 3 _ (by omega) rfl
      have d4 := hm 4 _ (by omega) rfl
      have d5 := hm 5 _ (by omega) rfl
      have d6 := hm 6 _ (by omega) rfl
      clear h4 hm
      go_wp2_with fail
      (refine wp_region_ext (by kernel_rfl) (by kernel_rfl) ?_; (repeat (go_big_quiet_step (first | (go_at_call 117; refine Calls.ext_of (markText_any _ (q + 4) (by omega) _ (by omega) (by omega)))))); refine wpQuiet_nil ?_; intro w1 hb1; obtain ⟨hc1, hf1⟩ := bcell hb1; have hz1 := hb1.size; (try simp only [World.size_alloc, World.size_setCell, World.size_drew] at hz1))
      go_wp2
      go_roundw
      case rel => exact ⟨j + 1, q + 7, by omega, by go_num, by go_num, Lib.hid (by have := HQ.out; omega), by have := HQ.out; omega, by omega, by ((repeat (first | (with_reducible exact Below.refl _ _) | (with_reducible assumption) | (with_reducible refine Below.alloc ?_ ?_ _) | (with_reducible refine Below.setCell ?_ ?_ _) | (with_reducible refine Below.drew ?_) | (with_reducible refine below_setRow ?_ ?_ _) | (refine Below.trans ?_ (Below.mono (by assumption) ?_)))); all_goals (first | omega | (simp; done) | (simp; omega)))⟩
      case measure => simp [intOf]; omega
    · have hjn : j = n := by omega
      subst hjn
      go_wp2
      go_ret
      exact ⟨ret_int (by have := HQ.out; omega), hb⟩
end Go.Proofs.Ytigmdaiecdoimaa

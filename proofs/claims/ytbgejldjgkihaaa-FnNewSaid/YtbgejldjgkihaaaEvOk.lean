/- Contracts of the functions that say whether an event is valid. -/
import Derived.Test.YtbgejldjgkihaaaEv
namespace Go.Proofs.Ytbgejldjgkihaaa
set_option linter.unusedSimpArgs false
set_option linter.unusedVariables false
open Go.ChangeShapes Go.WideShapes Go.ChangeAt Go.RowKit

theorem toList_nil_iff (t : ByteArray) : t.toList = [] ↔ t = ⟨#[]⟩ := by
  rw [ByteArray.toList_eq]
  constructor
  · intro h; obtain ⟨⟨l⟩⟩ := t; simp at h; subst h; rfl
  · rintro rfl; rfl
theorem isEmpty_iff (t : ByteArray) : t.toList.isEmpty = decide (t = ⟨#[]⟩) := by
  rw [Bool.eq_iff_iff]; simp [List.isEmpty_iff, toList_nil_iff]
def hasFld (k : Int) : Bool := k == 2 || k == 3 || k == 6
/-- The event with the fields that its kind uses. -/
def bareE (e : Ev) : Ev :=
  { kind := e.kind
    field := if e.kind = 2 ∨ e.kind = 3 ∨ e.kind = 6 then e.field else 0
    bits := if e.kind = 2 then e.bits else 0
    len := if e.kind = 1 ∨ e.kind = 3 ∨ e.kind = 6 then e.len else 0
    text := if e.kind = 4 then e.text else ⟨#[]⟩
    code := if e.kind = 10 then e.code else 0
    at_ := if e.kind = 9 ∨ e.kind = 10 then e.at_ else 0 }
def tailOk (e : Ev) : Bool :=
  if e.kind = 2 ∨ e.kind = 3 ∨ e.kind = 6 then inB e.field 1 536870911 else if e.kind = 4 then !e.text.toList.isEmpty else if e.kind = 10 then decide (1 ≤ e.code) else true
def eventOk (e : Ev) : Bool := inB e.kind 1 10 && decide (e = bareE e) && decide (0 ≤ e.len) && decide (0 ≤ e.at_) && tailOk e

theorem kinds (k : Int) : k = 1 ∨ k = 2 ∨ k = 3 ∨ k = 4 ∨ k = 5 ∨ k = 6 ∨ k = 7 ∨ k = 8 ∨ k = 9 ∨ k = 10 ∨ inB k 1 10 = false := by
  by_cases h : inB k 1 10 = true
  · simp only [inB, decide_eq_true_eq] at h; omega
  · simp at h; simp [h]

set_option maxHeartbeats 2000000 in
theorem bare_any (e : Ev) (w : World) : Calls Try.prog 122 #[e.val] w fun r w' => r = .returned (bareE e).val ∧ Below w.heap.size w w' := by
  obtain ⟨k, f, b, l, t, c, a⟩ := e
  go_enter Try.func122, Try.ntmps122
  go_wp2
  all_goals (try (go_region; all_goals go_wp2))
  all_goals
    exact bodyPost_ret (v := (bareE ⟨k, f, b, l, t, c, a⟩).val) (by simp [results, Try.results122, go_sem, Ev.val]; simp_all [bareE]) rfl ⟨rfl, by ((repeat (first | (with_reducible exact Below.refl _ _) | (with_reducible assumption) | (with_reducible refine Below.alloc ?_ ?_ _) | (with_reducible refine Below.setCell ?_ ?_ _) | (with_reducible refine Below.drew ?_) | (with_reducible refine below_setRow ?_ ?_ _) | (refine Below.trans ?_ (Below.mono (by assumption) ?_)))); all_goals (first | omega | (simp; done) | (simp; omega)))⟩
theorem hasField_any (x : Int) (w : World) : Calls Try.prog 123 #[.int .i64 x] w fun r w' => r = .returned (.bool (hasFld x)) ∧ w = w' := by
  go_enter Try.func123, Try.ntmps123
  go_wp2
  all_goals (go_ret; exact ⟨by simp_all [hasFld], rfl⟩)
set_option maxHeartbeats 4000000 in
theorem specEventOk_any (e : Ev) (w : World) : Calls Try.prog 80 #[e.val] w fun r w' => r = .returned (.bool (eventOk e)) ∧ Below w.heap.size w w' := by
  obtain ⟨k, f, b, l, t, c, a⟩ := e
  rcases kinds k with rfl | rfl | rfl | rfl | rfl | rfl | rfl | rfl | rfl | rfl | hk
  all_goals
    go_enter Try.func80, Try.ntmps80
    go_wp2_with (first | (go_at_call 56; refine (l1In_any _ _ _ _).mono ?_; rintro r w1 ⟨rfl, rfl⟩))
    all_goals
      go_ret
      refine ⟨ret_bool ?_, by ((repeat (first | (with_reducible exact Below.refl _ _) | (with_reducible assumption) | (with_reducible refine Below.alloc ?_ ?_ _) | (with_reducible refine Below.setCell ?_ ?_ _) | (with_reducible refine Below.drew ?_) | (with_reducible refine below_setRow ?_ ?_ _) | (refine Below.trans ?_ (Below.mono (by assumption) ?_)))); all_goals (first | omega | (simp; done) | (simp; omega)))⟩
      first
      | (simp_all [eventOk, bareE, tailOk, toList_nil_iff, isEmpty_iff]; done)
      | (simp_all [eventOk, bareE, tailOk, toList_nil_iff, isEmpty_iff]; intros; omega)
theorem ev_same (k f b l c a : Int) (t : ByteArray) {x : Bool} (h : decide ((⟨k, f, b, l, t, c, a⟩ : Ev) = bareE ⟨k, f, b, l, t, c, a⟩) = x) :
    sameEv ⟨k, f, b, l, t, c, a⟩ ⟨(bareE ⟨k, f, b, l, t, c, a⟩).kind, (bareE ⟨k, f, b, l, t, c, a⟩).field, (bareE ⟨k, f, b, l, t, c, a⟩).bits, (bareE ⟨k, f, b, l, t, c, a⟩).len, (bareE ⟨k, f, b, l, t, c, a⟩).text, (bareE ⟨k, f, b, l, t, c, a⟩).code, (bareE ⟨k, f, b, l, t, c, a⟩).at_⟩ = x := h
theorem eventOk_tail {k f b l c a : Int} {t : ByteArray} (hk : inB k 1 10 = true) (hd : decide ((⟨k, f, b, l, t, c, a⟩ : Ev) = bareE ⟨k, f, b, l, t, c, a⟩) = true) (hl : decide (l < 0) = false) (ha : decide (a < 0) = false) :
    eventOk ⟨k, f, b, l, t, c, a⟩ = tailOk ⟨k, f, b, l, t, c, a⟩ := by
  simp at hl ha; simp [eventOk, hk, hd, hl, ha]
theorem tail_fld {k f b l c a : Int} {t : ByteArray} (h : hasFld k = true) : tailOk ⟨k, f, b, l, t, c, a⟩ = inB f 1 536870911 := by
  simp only [hasFld, Bool.or_eq_true, beq_iff_eq] at h; simp only [tailOk]; rw [if_pos (by omega)]
theorem not_fld {k : Int} (h : hasFld k = false) : ¬ (k = 2 ∨ k = 3 ∨ k = 6) := by
  simp only [hasFld, Bool.or_eq_false_iff, beq_eq_false_iff_ne] at h; omega
theorem tail_text {k f b l c a : Int} {t : ByteArray} (h : hasFld k = false) (h1 : (k == 4) = true) : tailOk ⟨k, f, b, l, t, c, a⟩ = !t.toList.isEmpty := by
  simp only [tailOk]; rw [if_neg (not_fld h), if_pos (by simpa using h1)]
theorem tail_code {k f b l c a : Int} {t : ByteArray} (h : hasFld k = false) (h1 : (k == 4) = false) (h2 : (k == 10) = true) : tailOk ⟨k, f, b, l, t, c, a⟩ = decide (1 ≤ c) := by
  simp only [tailOk]; rw [if_neg (not_fld h), if_neg (by simpa using h1), if_pos (by simpa using h2)]
theorem tail_no {k f b l c a : Int} {t : ByteArray} (h : hasFld k = false) (h1 : (k == 4) = false) (h2 : (k == 10) = false) : tailOk ⟨k, f, b, l, t, c, a⟩ = true := by
  simp only [tailOk]; rw [if_neg (not_fld h), if_neg (by simpa using h1), if_neg (by simpa using h2)]
set_option maxHeartbeats 4000000 in
theorem implEventOk_0 (k f b l c a : Int) (t : ByteArray) (w : World) (hk : inB k 1 10 = false) : Calls Try.prog 71 #[.agg #[.int .i64 k, .int .i64 f, .int .u64 b, .int .i64 l, .string t, .int .i64 c, .int .i64 a]] w fun r w' => r = .returned (.bool (eventOk ⟨k, f, b, l, t, c, a⟩)) ∧ Below w.heap.size w w' := by
  have hne := run_neq_ev
  go_enter Try.func71, Try.ntmps71
  go_wp2_with fail
  (refine wp_region_ext (by kernel_rfl) (by kernel_rfl) ?_; (repeat (go_big_quiet_step (first | (go_at_call 121; refine Calls.ext_of_same (isEvent_any _ _)) | (go_at_call 122; refine Calls.ext_of (bare_any ⟨k, f, b, l, t, c, a⟩ _))))); refine wpQuiet_nil ?_; intro w1 hb1; obtain ⟨hc1, hf1⟩ := bcell hb1; have hz1 := hb1.size; (try simp only [World.size_alloc, World.size_setCell, World.size_drew] at hz1); have hy1_0 : w.heap.size < w1.heap.size := by omega)
  go_wp2
  go_ret
  exact ⟨ret_bool (by simp [eventOk, hk]), by ((repeat (first | (with_reducible exact Below.refl _ _) | (with_reducible assumption) | (with_reducible refine Below.alloc ?_ ?_ _) | (with_reducible refine Below.setCell ?_ ?_ _) | (with_reducible refine Below.drew ?_) | (with_reducible refine below_setRow ?_ ?_ _) | (refine Below.trans ?_ (Below.mono (by assumption) ?_)))); all_goals (first | omega | (simp; done) | (simp; omega)))⟩
set_option maxHeartbeats 4000000 in
theorem implEventOk_1 (k f b l c a : Int) (t : ByteArray) (w : World) (hk : inB k 1 10 = true) (hd : decide ((⟨k, f, b, l, t, c, a⟩ : Ev) = bareE ⟨k, f, b, l, t, c, a⟩) = false) : Calls Try.prog 71 #[.agg #[.int .i64 k, .int .i64 f, .int .u64 b, .int .i64 l, .string t, .int .i64 c, .int .i64 a]] w fun r w' => r = .returned (.bool (eventOk ⟨k, f, b, l, t, c, a⟩)) ∧ Below w.heap.size w w' := by
  have hs := ev_same k f b l c a t hd
  have HD := Lib.hid hd; clear hd
  have hne := run_neq_ev
  go_enter Try.func71, Try.ntmps71
  go_wp2_with fail
  (refine wp_region_ext (by kernel_rfl) (by kernel_rfl) ?_; (repeat (go_big_quiet_step (first | (go_at_call 121; refine Calls.ext_of_same (isEvent_any _ _)) | (go_at_call 122; refine Calls.ext_of (bare_any ⟨k, f, b, l, t, c, a⟩ _))))); refine wpQuiet_nil ?_; intro w1 hb1; obtain ⟨hc1, hf1⟩ := bcell hb1; have hz1 := hb1.size; (try simp only [World.size_alloc, World.size_setCell, World.size_drew] at hz1); have hy1_0 : w.heap.size < w1.heap.size := by omega)
  go_wp2
  go_ret
  exact ⟨ret_bool (by simp [eventOk, HD.out]), by ((repeat (first | (with_reducible exact Below.refl _ _) | (with_reducible assumption) | (with_reducible refine Below.alloc ?_ ?_ _) | (with_reducible refine Below.setCell ?_ ?_ _) | (with_reducible refine Below.drew ?_) | (with_reducible refine below_setRow ?_ ?_ _) | (refine Below.trans ?_ (Below.mono (by assumption) ?_)))); all_goals (first | omega | (simp; done) | (simp; omega)))⟩
set_option maxHeartbeats 4000000 in
theorem implEventOk_2 (k f b l c a : Int) (t : ByteArray) (w : World) (hk : inB k 1 10 = true) (hd : decide ((⟨k, f, b, l, t, c, a⟩ : Ev) = bareE ⟨k, f, b, l, t, c, a⟩) = true) (hl : decide (l < 0) = true) : Calls Try.prog 71 #[.agg #[.int .i64 k, .int .i64 f, .int .u64 b, .int .i64 l, .string t, .int .i64 c, .int .i64 a]] w fun r w' => r = .returned (.bool (eventOk ⟨k, f, b, l, t, c, a⟩)) ∧ Below w.heap.size w w' := by
  have hs := ev_same k f b l c a t hd
  have HD := Lib.hid hd; clear hd
  have hne := run_neq_ev
  go_enter Try.func71, Try.ntmps71
  go_wp2_with fail
  (refine wp_region_ext (by kernel_rfl) (by kernel_rfl) ?_; (repeat (go_big_quiet_step (first | (go_at_call 121; refine Calls.ext_of_same (isEvent_any _ _)) | (go_at_call 122; refine Calls.ext_of (bare_any ⟨k, f, b, l, t, c, a⟩ _))))); refine wpQuiet_nil ?_; intro w1 hb1; obtain ⟨hc1, hf1⟩ := bcell hb1; have hz1 := hb1.size; (try simp only [World.size_alloc, World.size_setCell, World.size_drew] at hz1); have hy1_0 : w.heap.size < w1.heap.size := by omega)
  go_wp2
  go_ret
  exact ⟨ret_bool (by simp at hl; simp [eventOk]; intros; omega), by ((repeat (first | (with_reducible exact Below.refl _ _) | (with_reducible assumption) | (with_reducible refine Below.alloc ?_ ?_ _) | (with_reducible refine Below.setCell ?_ ?_ _) | (with_reducible refine Below.drew ?_) | (with_reducible refine below_setRow ?_ ?_ _) | (refine Below.trans ?_ (Below.mono (by assumption) ?_)))); all_goals (first | omega | (simp; done) | (simp; omega)))⟩
set_option maxHeartbeats 4000000 in
theorem implEventOk_3 (k f b l c a : Int) (t : ByteArray) (w : World) (hk : inB k 1 10 = true) (hd : decide ((⟨k, f, b, l, t, c, a⟩ : Ev) = bareE ⟨k, f, b, l, t, c, a⟩) = true) (hl : decide (l < 0) = false) (ha : decide (a < 0) = true) : Calls Try.prog 71 #[.agg #[.int .i64 k, .int .i64 f, .int .u64 b, .int .i64 l, .string t, .int .i64 c, .int .i64 a]] w fun r w' => r = .returned (.bool (eventOk ⟨k, f, b, l, t, c, a⟩)) ∧ Below w.heap.size w w' := by
  have hs := ev_same k f b l c a t hd
  have HD := Lib.hid hd; clear hd
  have hne := run_neq_ev
  go_enter Try.func71, Try.ntmps71
  go_wp2_with fail
  (refine wp_region_ext (by kernel_rfl) (by kernel_rfl) ?_; (repeat (go_big_quiet_step (first | (go_at_call 121; refine Calls.ext_of_same (isEvent_any _ _)) | (go_at_call 122; refine Calls.ext_of (bare_any ⟨k, f, b, l, t, c, a⟩ _))))); refine wpQuiet_nil ?_; intro w1 hb1; obtain ⟨hc1, hf1⟩ := bcell hb1; have hz1 := hb1.size; (try simp only [World.size_alloc, World.size_setCell, World.size_drew] at hz1); have hy1_0 : w.heap.size < w1.heap.size := by omega)
  go_wp2
  go_ret
  exact ⟨ret_bool (by simp at ha; simp [eventOk]; intros; omega), by ((repeat (first | (with_reducible exact Below.refl _ _) | (with_reducible assumption) | (with_reducible refine Below.alloc ?_ ?_ _) | (with_reducible refine Below.setCell ?_ ?_ _) | (with_reducible refine Below.drew ?_) | (with_reducible refine below_setRow ?_ ?_ _) | (refine Below.trans ?_ (Below.mono (by assumption) ?_)))); all_goals (first | omega | (simp; done) | (simp; omega)))⟩
set_option maxHeartbeats 4000000 in
theorem implEventOk_4 (k f b l c a : Int) (t : ByteArray) (w : World) (hk : inB k 1 10 = true) (hd : decide ((⟨k, f, b, l, t, c, a⟩ : Ev) = bareE ⟨k, f, b, l, t, c, a⟩) = true) (hl : decide (l < 0) = false) (ha : decide (a < 0) = false) : Calls Try.prog 71 #[.agg #[.int .i64 k, .int .i64 f, .int .u64 b, .int .i64 l, .string t, .int .i64 c, .int .i64 a]] w fun r w' => r = .returned (.bool (eventOk ⟨k, f, b, l, t, c, a⟩)) ∧ Below w.heap.size w w' := by
  have hs := ev_same k f b l c a t hd
  have HD := Lib.hid hd; clear hd
  have hne := run_neq_ev
  go_enter Try.func71, Try.ntmps71
  go_wp2_with fail
  (refine wp_region_ext (by kernel_rfl) (by kernel_rfl) ?_; (repeat (go_big_quiet_step (first | (go_at_call 121; refine Calls.ext_of_same (isEvent_any _ _)) | (go_at_call 122; refine Calls.ext_of (bare_any ⟨k, f, b, l, t, c, a⟩ _))))); refine wpQuiet_nil ?_; intro w1 hb1; obtain ⟨hc1, hf1⟩ := bcell hb1; have hz1 := hb1.size; (try simp only [World.size_alloc, World.size_setCell, World.size_drew] at hz1); have hy1_0 : w.heap.size < w1.heap.size := by omega)
  go_wp2_with (first
    | (go_at_call 123; refine (hasField_any _ _).mono ?_; rintro r w2 ⟨rfl, rfl⟩)
    | (go_at_call 60; refine (within_any _ _ _ _).mono ?_; rintro r w2 ⟨rfl, rfl⟩))
  all_goals
    go_ret
    refine ⟨ret_bool ?_, by ((repeat (first | (with_reducible exact Below.refl _ _) | (with_reducible assumption) | (with_reducible refine Below.alloc ?_ ?_ _) | (with_reducible refine Below.setCell ?_ ?_ _) | (with_reducible refine Below.drew ?_) | (with_reducible refine below_setRow ?_ ?_ _) | (refine Below.trans ?_ (Below.mono (by assumption) ?_)))); all_goals (first | omega | (simp; done) | (simp; omega)))⟩
    rw [eventOk_tail hk HD.out hl ha]
    first
      | exact (tail_fld ‹_›).symm
      | exact (tail_text ‹_› ‹_›).symm
      | exact (tail_code ‹_› ‹_› ‹_›).symm
      | exact (tail_no ‹_› ‹_› ‹_›).symm
theorem implEventOk_any (e : Ev) (w : World) : Calls Try.prog 71 #[e.val] w fun r w' => r = .returned (.bool (eventOk e)) ∧ Below w.heap.size w w' := by
  obtain ⟨k, f, b, l, t, c, a⟩ := e
  cases hk : inB k 1 10
  · exact implEventOk_0 _ _ _ _ _ _ _ _ hk
  · cases hd : decide ((⟨k, f, b, l, t, c, a⟩ : Ev) = bareE ⟨k, f, b, l, t, c, a⟩)
    · exact implEventOk_1 _ _ _ _ _ _ _ _ hk hd
    · cases hl : decide (l < 0)
      · cases ha : decide (a < 0)
        · exact implEventOk_4 _ _ _ _ _ _ _ _ hk hd hl ha
        · exact implEventOk_3 _ _ _ _ _ _ _ _ hk hd hl ha
      · exact implEventOk_2 _ _ _ _ _ _ _ _ hk hd hl
end Go.Proofs.Ytbgejldjgkihaaa

/- FnEvents: for every code the drawn event that is valid has no fields but those of its kind. No condition. -/
import Derived.Test.YtkmenljbajlneaaDrawB
import Derived.Test.YtkmenljbajlneaaWords
namespace Go.Proofs.Ytkmenljbajlneaa.fnEvents
set_option linter.unusedSimpArgs false
set_option linter.unusedVariables false
open Go.ChangeShapes Go.WideShapes Go.ChangeAt Go.RowKit Go.BigFrame

theorem wordEv (k : Int) (w : World) (h : 1 ≤ k ∧ k ≤ 10) : Calls Try.prog 54 #[.int .i64 k] w fun r w' => ∃ s : ByteArray, r = .returned (.string s) ∧ s.toList.isEmpty = false ∧ Below w.heap.size w w' := by
  refine (implEventWord_any k w).mono ?_
  rintro r w1 ⟨rfl, hb⟩
  refine ⟨_, rfl, ?_, hb⟩
  rcases ten h.1 h.2 with rfl | rfl | rfl | rfl | rfl | rfl | rfl | rfl | rfl | rfl <;> (rw [isEmpty_iff]; decide)
set_option maxRecDepth 100000 in
set_option maxHeartbeats 4000000 in
theorem walk (w : World) (x : SlArg Int) (hx : x.ok 1 byCs ByOk w) :
    Calls Try.prog 11 #[.slice x.a x.xs.length x.cap] w fun r w' => r = .returned (.bool true) ∧ Below w.heap.size w w' := by
  have hcode := code_of hx
  obtain ⟨a, cap, bs⟩ := x
  obtain ⟨_, _, hle, hcap⟩ := hx
  simp only at hcode hle hcap ⊢
  by_cases hbig : (1048576 : Int) < (bs.length : Int)
  · go_enter Try.func11, Try.ntmps11
    go_wp2_with (first | (go_at_call 34; refine (big_any _ _ _ _).mono ?_; rintro r w1 ⟨rfl, rfl⟩))
    go_ret
    exact ⟨rfl, by ((repeat (first | (with_reducible exact Below.refl _ _) | (with_reducible assumption) | (with_reducible refine Below.alloc ?_ ?_ _) | (with_reducible refine Below.setCell ?_ ?_ _) | (with_reducible refine Below.drew ?_) | (with_reducible refine below_setRow ?_ ?_ _) | (refine Below.trans ?_ (Below.mono (by assumption) ?_)))); all_goals (first | omega | (simp; done) | (simp; omega)))⟩
  · go_enter Try.func11, Try.ntmps11
    go_wp2_with (first | (go_at_call 34; refine (big_any _ _ _ _).mono ?_; rintro r w1 ⟨rfl, rfl⟩))
    refine (drawEventOk_any a cap bs.length w hcode (by omega)).mono ?_
    rintro r w1 ⟨e, rfl, ht, hb1⟩
    have hz1 := hb1.size
    have hBw : ∀ o, Below w.heap.size w (w1.alloc o) := fun o => by ((repeat (first | (with_reducible exact Below.refl _ _) | (with_reducible assumption) | (with_reducible refine Below.alloc ?_ ?_ _) | (with_reducible refine Below.setCell ?_ ?_ _) | (with_reducible refine Below.drew ?_) | (with_reducible refine below_setRow ?_ ?_ _) | (refine Below.trans ?_ (Below.mono (by assumption) ?_)))); all_goals (first | omega | (simp; done) | (simp; omega)))
    cases he : eventOk e
    · obtain ⟨k, f, b, l, t, c, a⟩ := e
      go_wp2_with fail
      (refine wp_region_ext (by kernel_rfl) (by kernel_rfl) ?_; (repeat (go_big_quiet_step (first | (go_at_call 51; refine Calls.ext_of (implEventOk_any ⟨k, f, b, l, t, c, a⟩ _)) | (go_at_call 52; refine Calls.ext_of (specEventOk_any ⟨k, f, b, l, t, c, a⟩ _))))); refine wpQuiet_nil ?_; intro w2 hb2; obtain ⟨hc2, hf2⟩ := bcell hb2; have hz2 := hb2.size; (try simp only [World.size_alloc, World.size_setCell, World.size_drew] at hz2))
      simp only [he]
      go_wp2_with fail
      refine (implEventOk_any ⟨k, f, b, l, t, c, a⟩ _).mono ?_
      rintro r w3 ⟨rfl, hb3⟩
      rw [he]
      go_wp2
      go_ret
      exact ⟨rfl, by ((repeat (first | (with_reducible exact Below.refl _ _) | (with_reducible assumption) | (with_reducible refine Below.alloc ?_ ?_ _) | (with_reducible refine Below.setCell ?_ ?_ _) | (with_reducible refine Below.drew ?_) | (with_reducible refine below_setRow ?_ ?_ _) | (refine Below.trans ?_ (Below.mono (by assumption) ?_)))); all_goals (first | omega | (simp; done) | (simp; omega)))⟩
    · rcases evOk_shape he with ⟨l, rfl⟩ | ⟨f, b, rfl⟩ | ⟨f, l, rfl⟩ | ⟨t, hte, rfl⟩ | rfl | ⟨f, l, rfl⟩ | rfl | rfl | ⟨a, rfl⟩ | ⟨c, a, rfl⟩
      · skip
        go_wp2_with fail
        (refine wp_region_ext (by kernel_rfl) (by kernel_rfl) ?_; (repeat (go_big_quiet_step (first | (go_at_call 51; refine Calls.ext_of (implEventOk_any ⟨1, 0, 0, l, ⟨#[]⟩, 0, 0⟩ _)) | (go_at_call 52; refine Calls.ext_of (specEventOk_any ⟨1, 0, 0, l, ⟨#[]⟩, 0, 0⟩ _))))); refine wpQuiet_nil ?_; intro w2 hb2; obtain ⟨hc2, hf2⟩ := bcell hb2; have hz2 := hb2.size; (try simp only [World.size_alloc, World.size_setCell, World.size_drew] at hz2))
        simp only [he]
        go_wp2_with fail
        refine (implEventOk_any ⟨1, 0, 0, l, ⟨#[]⟩, 0, 0⟩ _).mono ?_
        rintro r w3 ⟨rfl, hb3⟩
        rw [he]
        obtain ⟨hc3, hf3⟩ := bcell hb3
        have hz3 := hb3.size
        have hq : w1.heap.size < w2.heap.size := by omega
        have hq3 : w1.heap.size < w3.heap.size := by omega
        go_wp2_with fail
        refine (implTerminal_any ⟨1, 0, 0, l, ⟨#[]⟩, 0, 0⟩ _).mono ?_
        rintro r w4 ⟨rfl, hb4⟩
        rw [show terminal ⟨1, 0, 0, l, ⟨#[]⟩, 0, 0⟩ = false from rfl]
        obtain ⟨hc4, hf4⟩ := bcell hb4
        have hz4 := hb4.size
        have hq4 : w1.heap.size < w4.heap.size := by omega
        go_wp2_with fail
        all_goals
          refine (wordEv _ _ (by decide)).mono ?_
          rintro r w5 ⟨s, rfl, hs, hb5⟩
          have hz5 := hb5.size
          go_wp2
          go_ret
          exact ⟨ret_bool (by simp [hs]), by ((repeat (first | (with_reducible exact Below.refl _ _) | (with_reducible assumption) | (with_reducible refine Below.alloc ?_ ?_ _) | (with_reducible refine Below.setCell ?_ ?_ _) | (with_reducible refine Below.drew ?_) | (with_reducible refine below_setRow ?_ ?_ _) | (refine Below.trans ?_ (Below.mono (by assumption) ?_)))); all_goals (first | omega | (simp; done) | (simp; omega)))⟩
      · skip
        go_wp2_with fail
        (refine wp_region_ext (by kernel_rfl) (by kernel_rfl) ?_; (repeat (go_big_quiet_step (first | (go_at_call 51; refine Calls.ext_of (implEventOk_any ⟨2, f, b, 0, ⟨#[]⟩, 0, 0⟩ _)) | (go_at_call 52; refine Calls.ext_of (specEventOk_any ⟨2, f, b, 0, ⟨#[]⟩, 0, 0⟩ _))))); refine wpQuiet_nil ?_; intro w2 hb2; obtain ⟨hc2, hf2⟩ := bcell hb2; have hz2 := hb2.size; (try simp only [World.size_alloc, World.size_setCell, World.size_drew] at hz2))
        simp only [he]
        go_wp2_with fail
        refine (implEventOk_any ⟨2, f, b, 0, ⟨#[]⟩, 0, 0⟩ _).mono ?_
        rintro r w3 ⟨rfl, hb3⟩
        rw [he]
        obtain ⟨hc3, hf3⟩ := bcell hb3
        have hz3 := hb3.size
        have hq : w1.heap.size < w2.heap.size := by omega
        have hq3 : w1.heap.size < w3.heap.size := by omega
        go_wp2_with fail
        refine (implTerminal_any ⟨2, f, b, 0, ⟨#[]⟩, 0, 0⟩ _).mono ?_
        rintro r w4 ⟨rfl, hb4⟩
        rw [show terminal ⟨2, f, b, 0, ⟨#[]⟩, 0, 0⟩ = false from rfl]
        obtain ⟨hc4, hf4⟩ := bcell hb4
        have hz4 := hb4.size
        have hq4 : w1.heap.size < w4.heap.size := by omega
        go_wp2_with fail
        all_goals
          refine (wordEv _ _ (by decide)).mono ?_
          rintro r w5 ⟨s, rfl, hs, hb5⟩
          have hz5 := hb5.size
          go_wp2
          go_ret
          exact ⟨ret_bool (by simp [hs]), by ((repeat (first | (with_reducible exact Below.refl _ _) | (with_reducible assumption) | (with_reducible refine Below.alloc ?_ ?_ _) | (with_reducible refine Below.setCell ?_ ?_ _) | (with_reducible refine Below.drew ?_) | (with_reducible refine below_setRow ?_ ?_ _) | (refine Below.trans ?_ (Below.mono (by assumption) ?_)))); all_goals (first | omega | (simp; done) | (simp; omega)))⟩
      · skip
        go_wp2_with fail
        (refine wp_region_ext (by kernel_rfl) (by kernel_rfl) ?_; (repeat (go_big_quiet_step (first | (go_at_call 51; refine Calls.ext_of (implEventOk_any ⟨3, f, 0, l, ⟨#[]⟩, 0, 0⟩ _)) | (go_at_call 52; refine Calls.ext_of (specEventOk_any ⟨3, f, 0, l, ⟨#[]⟩, 0, 0⟩ _))))); refine wpQuiet_nil ?_; intro w2 hb2; obtain ⟨hc2, hf2⟩ := bcell hb2; have hz2 := hb2.size; (try simp only [World.size_alloc, World.size_setCell, World.size_drew] at hz2))
        simp only [he]
        go_wp2_with fail
        refine (implEventOk_any ⟨3, f, 0, l, ⟨#[]⟩, 0, 0⟩ _).mono ?_
        rintro r w3 ⟨rfl, hb3⟩
        rw [he]
        obtain ⟨hc3, hf3⟩ := bcell hb3
        have hz3 := hb3.size
        have hq : w1.heap.size < w2.heap.size := by omega
        have hq3 : w1.heap.size < w3.heap.size := by omega
        go_wp2_with fail
        refine (implTerminal_any ⟨3, f, 0, l, ⟨#[]⟩, 0, 0⟩ _).mono ?_
        rintro r w4 ⟨rfl, hb4⟩
        rw [show terminal ⟨3, f, 0, l, ⟨#[]⟩, 0, 0⟩ = false from rfl]
        obtain ⟨hc4, hf4⟩ := bcell hb4
        have hz4 := hb4.size
        have hq4 : w1.heap.size < w4.heap.size := by omega
        go_wp2_with fail
        all_goals
          refine (wordEv _ _ (by decide)).mono ?_
          rintro r w5 ⟨s, rfl, hs, hb5⟩
          have hz5 := hb5.size
          go_wp2
          go_ret
          exact ⟨ret_bool (by simp [hs]), by ((repeat (first | (with_reducible exact Below.refl _ _) | (with_reducible assumption) | (with_reducible refine Below.alloc ?_ ?_ _) | (with_reducible refine Below.setCell ?_ ?_ _) | (with_reducible refine Below.drew ?_) | (with_reducible refine below_setRow ?_ ?_ _) | (refine Below.trans ?_ (Below.mono (by assumption) ?_)))); all_goals (first | omega | (simp; done) | (simp; omega)))⟩
      · skip
        have hte2 : t.toList.isEmpty = false := by rw [isEmpty_iff]; simpa using hte
        go_wp2_with fail
        (refine wp_region_ext (by kernel_rfl) (by kernel_rfl) ?_; (repeat (go_big_quiet_step (first | (go_at_call 51; refine Calls.ext_of (implEventOk_any ⟨4, 0, 0, 0, t, 0, 0⟩ _)) | (go_at_call 52; refine Calls.ext_of (specEventOk_any ⟨4, 0, 0, 0, t, 0, 0⟩ _))))); refine wpQuiet_nil ?_; intro w2 hb2; obtain ⟨hc2, hf2⟩ := bcell hb2; have hz2 := hb2.size; (try simp only [World.size_alloc, World.size_setCell, World.size_drew] at hz2))
        simp only [he]
        go_wp2_with fail
        refine (implEventOk_any ⟨4, 0, 0, 0, t, 0, 0⟩ _).mono ?_
        rintro r w3 ⟨rfl, hb3⟩
        rw [he]
        obtain ⟨hc3, hf3⟩ := bcell hb3
        have hz3 := hb3.size
        have hq : w1.heap.size < w2.heap.size := by omega
        have hq3 : w1.heap.size < w3.heap.size := by omega
        go_wp2_with fail
        refine (implTerminal_any ⟨4, 0, 0, 0, t, 0, 0⟩ _).mono ?_
        rintro r w4 ⟨rfl, hb4⟩
        rw [show terminal ⟨4, 0, 0, 0, t, 0, 0⟩ = false from rfl]
        obtain ⟨hc4, hf4⟩ := bcell hb4
        have hz4 := hb4.size
        have hq4 : w1.heap.size < w4.heap.size := by omega
        go_wp2_with fail
        all_goals
          refine (wordEv _ _ (by decide)).mono ?_
          rintro r w5 ⟨s, rfl, hs, hb5⟩
          have hz5 := hb5.size
          go_wp2
          go_ret
          exact ⟨ret_bool (by simp [hs]), by ((repeat (first | (with_reducible exact Below.refl _ _) | (with_reducible assumption) | (with_reducible refine Below.alloc ?_ ?_ _) | (with_reducible refine Below.setCell ?_ ?_ _) | (with_reducible refine Below.drew ?_) | (with_reducible refine below_setRow ?_ ?_ _) | (refine Below.trans ?_ (Below.mono (by assumption) ?_)))); all_goals (first | omega | (simp; done) | (simp; omega)))⟩
      · skip
        go_wp2_with fail
        (refine wp_region_ext (by kernel_rfl) (by kernel_rfl) ?_; (repeat (go_big_quiet_step (first | (go_at_call 51; refine Calls.ext_of (implEventOk_any ⟨5, 0, 0, 0, ⟨#[]⟩, 0, 0⟩ _)) | (go_at_call 52; refine Calls.ext_of (specEventOk_any ⟨5, 0, 0, 0, ⟨#[]⟩, 0, 0⟩ _))))); refine wpQuiet_nil ?_; intro w2 hb2; obtain ⟨hc2, hf2⟩ := bcell hb2; have hz2 := hb2.size; (try simp only [World.size_alloc, World.size_setCell, World.size_drew] at hz2))
        simp only [he]
        go_wp2_with fail
        refine (implEventOk_any ⟨5, 0, 0, 0, ⟨#[]⟩, 0, 0⟩ _).mono ?_
        rintro r w3 ⟨rfl, hb3⟩
        rw [he]
        obtain ⟨hc3, hf3⟩ := bcell hb3
        have hz3 := hb3.size
        have hq : w1.heap.size < w2.heap.size := by omega
        have hq3 : w1.heap.size < w3.heap.size := by omega
        go_wp2_with fail
        refine (implTerminal_any ⟨5, 0, 0, 0, ⟨#[]⟩, 0, 0⟩ _).mono ?_
        rintro r w4 ⟨rfl, hb4⟩
        rw [show terminal ⟨5, 0, 0, 0, ⟨#[]⟩, 0, 0⟩ = false from rfl]
        obtain ⟨hc4, hf4⟩ := bcell hb4
        have hz4 := hb4.size
        have hq4 : w1.heap.size < w4.heap.size := by omega
        go_wp2_with fail
        all_goals
          refine (wordEv _ _ (by decide)).mono ?_
          rintro r w5 ⟨s, rfl, hs, hb5⟩
          have hz5 := hb5.size
          go_wp2
          go_ret
          exact ⟨ret_bool (by simp [hs]), by ((repeat (first | (with_reducible exact Below.refl _ _) | (with_reducible assumption) | (with_reducible refine Below.alloc ?_ ?_ _) | (with_reducible refine Below.setCell ?_ ?_ _) | (with_reducible refine Below.drew ?_) | (with_reducible refine below_setRow ?_ ?_ _) | (refine Below.trans ?_ (Below.mono (by assumption) ?_)))); all_goals (first | omega | (simp; done) | (simp; omega)))⟩
      · skip
        go_wp2_with fail
        (refine wp_region_ext (by kernel_rfl) (by kernel_rfl) ?_; (repeat (go_big_quiet_step (first | (go_at_call 51; refine Calls.ext_of (implEventOk_any ⟨6, f, 0, l, ⟨#[]⟩, 0, 0⟩ _)) | (go_at_call 52; refine Calls.ext_of (specEventOk_any ⟨6, f, 0, l, ⟨#[]⟩, 0, 0⟩ _))))); refine wpQuiet_nil ?_; intro w2 hb2; obtain ⟨hc2, hf2⟩ := bcell hb2; have hz2 := hb2.size; (try simp only [World.size_alloc, World.size_setCell, World.size_drew] at hz2))
        simp only [he]
        go_wp2_with fail
        refine (implEventOk_any ⟨6, f, 0, l, ⟨#[]⟩, 0, 0⟩ _).mono ?_
        rintro r w3 ⟨rfl, hb3⟩
        rw [he]
        obtain ⟨hc3, hf3⟩ := bcell hb3
        have hz3 := hb3.size
        have hq : w1.heap.size < w2.heap.size := by omega
        have hq3 : w1.heap.size < w3.heap.size := by omega
        go_wp2_with fail
        refine (implTerminal_any ⟨6, f, 0, l, ⟨#[]⟩, 0, 0⟩ _).mono ?_
        rintro r w4 ⟨rfl, hb4⟩
        rw [show terminal ⟨6, f, 0, l, ⟨#[]⟩, 0, 0⟩ = false from rfl]
        obtain ⟨hc4, hf4⟩ := bcell hb4
        have hz4 := hb4.size
        have hq4 : w1.heap.size < w4.heap.size := by omega
        go_wp2_with fail
        all_goals
          refine (wordEv _ _ (by decide)).mono ?_
          rintro r w5 ⟨s, rfl, hs, hb5⟩
          have hz5 := hb5.size
          go_wp2
          go_ret
          exact ⟨ret_bool (by simp [hs]), by ((repeat (first | (with_reducible exact Below.refl _ _) | (with_reducible assumption) | (with_reducible refine Below.alloc ?_ ?_ _) | (with_reducible refine Below.setCell ?_ ?_ _) | (with_reducible refine Below.drew ?_) | (with_reducible refine below_setRow ?_ ?_ _) | (refine Below.trans ?_ (Below.mono (by assumption) ?_)))); all_goals (first | omega | (simp; done) | (simp; omega)))⟩
      · skip
        go_wp2_with fail
        (refine wp_region_ext (by kernel_rfl) (by kernel_rfl) ?_; (repeat (go_big_quiet_step (first | (go_at_call 51; refine Calls.ext_of (implEventOk_any ⟨7, 0, 0, 0, ⟨#[]⟩, 0, 0⟩ _)) | (go_at_call 52; refine Calls.ext_of (specEventOk_any ⟨7, 0, 0, 0, ⟨#[]⟩, 0, 0⟩ _))))); refine wpQuiet_nil ?_; intro w2 hb2; obtain ⟨hc2, hf2⟩ := bcell hb2; have hz2 := hb2.size; (try simp only [World.size_alloc, World.size_setCell, World.size_drew] at hz2))
        simp only [he]
        go_wp2_with fail
        refine (implEventOk_any ⟨7, 0, 0, 0, ⟨#[]⟩, 0, 0⟩ _).mono ?_
        rintro r w3 ⟨rfl, hb3⟩
        rw [he]
        obtain ⟨hc3, hf3⟩ := bcell hb3
        have hz3 := hb3.size
        have hq : w1.heap.size < w2.heap.size := by omega
        have hq3 : w1.heap.size < w3.heap.size := by omega
        go_wp2_with fail
        refine (implTerminal_any ⟨7, 0, 0, 0, ⟨#[]⟩, 0, 0⟩ _).mono ?_
        rintro r w4 ⟨rfl, hb4⟩
        rw [show terminal ⟨7, 0, 0, 0, ⟨#[]⟩, 0, 0⟩ = false from rfl]
        obtain ⟨hc4, hf4⟩ := bcell hb4
        have hz4 := hb4.size
        have hq4 : w1.heap.size < w4.heap.size := by omega
        go_wp2_with fail
        all_goals
          refine (wordEv _ _ (by decide)).mono ?_
          rintro r w5 ⟨s, rfl, hs, hb5⟩
          have hz5 := hb5.size
          go_wp2
          go_ret
          exact ⟨ret_bool (by simp [hs]), by ((repeat (first | (with_reducible exact Below.refl _ _) | (with_reducible assumption) | (with_reducible refine Below.alloc ?_ ?_ _) | (with_reducible refine Below.setCell ?_ ?_ _) | (with_reducible refine Below.drew ?_) | (with_reducible refine below_setRow ?_ ?_ _) | (refine Below.trans ?_ (Below.mono (by assumption) ?_)))); all_goals (first | omega | (simp; done) | (simp; omega)))⟩
      · skip
        go_wp2_with fail
        (refine wp_region_ext (by kernel_rfl) (by kernel_rfl) ?_; (repeat (go_big_quiet_step (first | (go_at_call 51; refine Calls.ext_of (implEventOk_any ⟨8, 0, 0, 0, ⟨#[]⟩, 0, 0⟩ _)) | (go_at_call 52; refine Calls.ext_of (specEventOk_any ⟨8, 0, 0, 0, ⟨#[]⟩, 0, 0⟩ _))))); refine wpQuiet_nil ?_; intro w2 hb2; obtain ⟨hc2, hf2⟩ := bcell hb2; have hz2 := hb2.size; (try simp only [World.size_alloc, World.size_setCell, World.size_drew] at hz2))
        simp only [he]
        go_wp2_with fail
        refine (implEventOk_any ⟨8, 0, 0, 0, ⟨#[]⟩, 0, 0⟩ _).mono ?_
        rintro r w3 ⟨rfl, hb3⟩
        rw [he]
        obtain ⟨hc3, hf3⟩ := bcell hb3
        have hz3 := hb3.size
        have hq : w1.heap.size < w2.heap.size := by omega
        have hq3 : w1.heap.size < w3.heap.size := by omega
        go_wp2_with fail
        refine (implTerminal_any ⟨8, 0, 0, 0, ⟨#[]⟩, 0, 0⟩ _).mono ?_
        rintro r w4 ⟨rfl, hb4⟩
        rw [show terminal ⟨8, 0, 0, 0, ⟨#[]⟩, 0, 0⟩ = false from rfl]
        obtain ⟨hc4, hf4⟩ := bcell hb4
        have hz4 := hb4.size
        have hq4 : w1.heap.size < w4.heap.size := by omega
        go_wp2_with fail
        all_goals
          refine (wordEv _ _ (by decide)).mono ?_
          rintro r w5 ⟨s, rfl, hs, hb5⟩
          have hz5 := hb5.size
          go_wp2
          go_ret
          exact ⟨ret_bool (by simp [hs]), by ((repeat (first | (with_reducible exact Below.refl _ _) | (with_reducible assumption) | (with_reducible refine Below.alloc ?_ ?_ _) | (with_reducible refine Below.setCell ?_ ?_ _) | (with_reducible refine Below.drew ?_) | (with_reducible refine below_setRow ?_ ?_ _) | (refine Below.trans ?_ (Below.mono (by assumption) ?_)))); all_goals (first | omega | (simp; done) | (simp; omega)))⟩
      · skip
        go_wp2_with fail
        (refine wp_region_ext (by kernel_rfl) (by kernel_rfl) ?_; (repeat (go_big_quiet_step (first | (go_at_call 51; refine Calls.ext_of (implEventOk_any ⟨9, 0, 0, 0, ⟨#[]⟩, 0, a⟩ _)) | (go_at_call 52; refine Calls.ext_of (specEventOk_any ⟨9, 0, 0, 0, ⟨#[]⟩, 0, a⟩ _))))); refine wpQuiet_nil ?_; intro w2 hb2; obtain ⟨hc2, hf2⟩ := bcell hb2; have hz2 := hb2.size; (try simp only [World.size_alloc, World.size_setCell, World.size_drew] at hz2))
        simp only [he]
        go_wp2_with fail
        refine (implEventOk_any ⟨9, 0, 0, 0, ⟨#[]⟩, 0, a⟩ _).mono ?_
        rintro r w3 ⟨rfl, hb3⟩
        rw [he]
        obtain ⟨hc3, hf3⟩ := bcell hb3
        have hz3 := hb3.size
        have hq : w1.heap.size < w2.heap.size := by omega
        have hq3 : w1.heap.size < w3.heap.size := by omega
        go_wp2_with fail
        refine (implTerminal_any ⟨9, 0, 0, 0, ⟨#[]⟩, 0, a⟩ _).mono ?_
        rintro r w4 ⟨rfl, hb4⟩
        rw [show terminal ⟨9, 0, 0, 0, ⟨#[]⟩, 0, a⟩ = true from rfl]
        obtain ⟨hc4, hf4⟩ := bcell hb4
        have hz4 := hb4.size
        have hq4 : w1.heap.size < w4.heap.size := by omega
        go_wp2_with fail
        all_goals
          refine (wordEv _ _ (by decide)).mono ?_
          rintro r w5 ⟨s, rfl, hs, hb5⟩
          have hz5 := hb5.size
          go_wp2
          go_ret
          exact ⟨ret_bool (by simp [hs]), by ((repeat (first | (with_reducible exact Below.refl _ _) | (with_reducible assumption) | (with_reducible refine Below.alloc ?_ ?_ _) | (with_reducible refine Below.setCell ?_ ?_ _) | (with_reducible refine Below.drew ?_) | (with_reducible refine below_setRow ?_ ?_ _) | (refine Below.trans ?_ (Below.mono (by assumption) ?_)))); all_goals (first | omega | (simp; done) | (simp; omega)))⟩
      · skip
        go_wp2_with fail
        (refine wp_region_ext (by kernel_rfl) (by kernel_rfl) ?_; (repeat (go_big_quiet_step (first | (go_at_call 51; refine Calls.ext_of (implEventOk_any ⟨10, 0, 0, 0, ⟨#[]⟩, c, a⟩ _)) | (go_at_call 52; refine Calls.ext_of (specEventOk_any ⟨10, 0, 0, 0, ⟨#[]⟩, c, a⟩ _))))); refine wpQuiet_nil ?_; intro w2 hb2; obtain ⟨hc2, hf2⟩ := bcell hb2; have hz2 := hb2.size; (try simp only [World.size_alloc, World.size_setCell, World.size_drew] at hz2))
        simp only [he]
        go_wp2_with fail
        refine (implEventOk_any ⟨10, 0, 0, 0, ⟨#[]⟩, c, a⟩ _).mono ?_
        rintro r w3 ⟨rfl, hb3⟩
        rw [he]
        obtain ⟨hc3, hf3⟩ := bcell hb3
        have hz3 := hb3.size
        have hq : w1.heap.size < w2.heap.size := by omega
        have hq3 : w1.heap.size < w3.heap.size := by omega
        go_wp2_with fail
        refine (implTerminal_any ⟨10, 0, 0, 0, ⟨#[]⟩, c, a⟩ _).mono ?_
        rintro r w4 ⟨rfl, hb4⟩
        rw [show terminal ⟨10, 0, 0, 0, ⟨#[]⟩, c, a⟩ = true from rfl]
        obtain ⟨hc4, hf4⟩ := bcell hb4
        have hz4 := hb4.size
        have hq4 : w1.heap.size < w4.heap.size := by omega
        go_wp2_with fail
        all_goals
          refine (wordEv _ _ (by decide)).mono ?_
          rintro r w5 ⟨s, rfl, hs, hb5⟩
          have hz5 := hb5.size
          go_wp2
          go_ret
          exact ⟨ret_bool (by simp [hs]), by ((repeat (first | (with_reducible exact Below.refl _ _) | (with_reducible assumption) | (with_reducible refine Below.alloc ?_ ?_ _) | (with_reducible refine Below.setCell ?_ ?_ _) | (with_reducible refine Below.drew ?_) | (with_reducible refine below_setRow ?_ ?_ _) | (refine Below.trans ?_ (Below.mono (by assumption) ?_)))); all_goals (first | omega | (simp; done) | (simp; omega)))⟩
set_option maxRecDepth 100000 in
theorem lifted (os : Os) (started : os.Started) (H : Type) (enc : TypeId × Value → H) :
    ReturnsInHanded {} Try.checked os 11 .any (Rows.fnEventsSpec.pre6 enc Try.prog Try.f11 Rows.fnEventsRow.domain false) (Rows.fnEventsSpec.post enc Try.prog Try.f11 false true false false) := by
  refine returnsInHanded_of_change (C := Try.checked) own started (by kernel_rfl) Try.func11
    (ChangeSpec.witness6 (enc := enc) (C := Try.checked) false ⟨#[], #[.slice none 0 0], []⟩ 8 (by kernel_rfl) (by kernel_rfl) (by kernel_rfl) (by kernel_rfl)) ?_
  intro W base args ds gs before hval0 hW hcnd _
  have hval : ∀ (j : Nat) t v, Try.f11.params[j]? = some t → args[j]? = some v → Value.okWide Try.prog W .any base t v := hval0
  have hW' := hW
  obtain ⟨p, q, hA0, hV, rfl, hfz, hnd⟩ := hW
  have hA : DataW.TrodAll enc Try.prog W 0 (fun _ => true) true Try.f11.params.toList args.toList ds p := hA0
  rw [Try.params11] at hA hval
  obtain ⟨v0, vs0, d0, ds0, p0, q0, hargs, rfl, rfl, h0, r0⟩ := trodAll_cons hA
  obtain ⟨rfl, rfl, rfl⟩ := trodAll_nil r0
  obtain rfl : args = #[v0] := by cases args; simp_all
  obtain ⟨rfl, rfl⟩ := trodVars_none hV
  have k0 := h0
  have lt0 : ∀ x ∈ p0, x.block < W.heap.size := by obtain ⟨m, hm⟩ := k0; exact DataW.trod_lt m _ _ _ hm
  obtain ⟨x0, e0, w0⟩ := openBytes (hval 0 47 v0 rfl rfl) h0
  subst e0
  clear hA0 hval0
  refine (walk W x0 w0).mono fun e W' ⟨he, bel⟩ => ?_
  subst he
  exact ⟨_, rfl, _, _, _, [], _, [], hW', trodAll_mk1 (shut_bool Try.underlying4 _), (trodAll_cons_mk (Below.trod laidOut (by kernel_rfl) (of_decide_eq_true (by kernel_rfl)) k0 bel lt0) trodAll_mk0), rfl, bel.frame _, fun h => by cases h⟩

theorem over : Rows.fnEventsRow.holds Try.pinned (OpenSpec.ofChange Rows.fnEventsSpec) :=
  OpenClaim.holds_of_wide 11 Try.f11 rfl rfl rfl rfl rfl rfl rfl ⟨rfl, rfl, rfl, rfl, rfl⟩ rfl rfl rfl rfl rfl (by kernel_rfl) Try.func11 (by kernel_rfl)
    (of_decide_eq_true (by kernel_rfl)) (by unfold Func.isWrapper; first | (rw [if_pos (by decide +kernel)]; kernel_rfl) | (rw [if_neg (by decide +kernel)]; exact ⟨rfl, rfl⟩))
    (fun os started H enc _ => lifted os started H enc)

/-- The given statement. -/
theorem proved : Rows.FnEventsSaid := over
end Go.Proofs.Ytkmenljbajlneaa.fnEvents

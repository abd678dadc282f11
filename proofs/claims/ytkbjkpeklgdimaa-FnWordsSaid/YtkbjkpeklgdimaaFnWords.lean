/- FnWords: for every code every kind and every error has a word of its own. No condition. -/
import Derived.Test.YtkbjkpeklgdimaaWords
import Derived.Test.YtkbjkpeklgdimaaDraw
namespace Go.Proofs.Ytkbjkpeklgdimaa.fnWords
set_option linter.unusedSimpArgs false
set_option linter.unusedVariables false
open Go.ChangeShapes Go.WideShapes Go.ChangeAt Go.RowKit

theorem ev_nonempty {k : Int} (h1 : 1 ≤ k) (h2 : k ≤ 10) : (wordAt evWords k).toList.isEmpty = false := by
  rcases ten h1 h2 with rfl | rfl | rfl | rfl | rfl | rfl | rfl | rfl | rfl | rfl <;> simp [wordAt, evWords, ByteArray.toList_mk]
theorem ev_inj : ∀ i : Fin 10, ∀ j : Fin 10, i ≠ j → (evWords.getD i []) ≠ (evWords.getD j []) := by decide
theorem err_inj : ∀ i : Fin 10, ∀ j : Fin 10, i ≠ j → (errWords.getD i []) ≠ (errWords.getD j []) := by decide
theorem words_ne {l : List (List UInt8)} (h : ∀ i : Fin 10, ∀ j : Fin 10, i ≠ j → (l.getD i []) ≠ (l.getD j [])) {x y : Int} (h1 : 1 ≤ x) (h2 : x ≤ 10) (h3 : 1 ≤ y) (h4 : y ≤ 10) (hne : x ≠ y) :
    ((wordAt l x).toList == (wordAt l y).toList) = false := by
  rw [beq_eq_false_iff_ne]
  have := h ⟨(x - 1).toNat, by omega⟩ ⟨(y - 1).toNat, by omega⟩ (by simp only [ne_eq, Fin.mk.injEq]; omega)
  simp only [wordAt, ByteArray.toList_mk, if_pos h1, if_pos h3]
  exact this
theorem ev_out {x : Int} (h : ¬ (1 ≤ x ∧ x ≤ 10)) : wordAt evWords x = ⟨#[]⟩ := by
  by_cases h1 : 1 ≤ x
  · exact wordAt_high (by simp [evWords]; omega)
  · exact wordAt_low (by omega)

set_option maxRecDepth 100000 in
set_option maxHeartbeats 8000000 in
theorem walk (w : World) (x : SlArg Int) (hx : x.ok 1 byCs ByOk w) :
    Calls Try.prog 13 #[x.val] w fun r w' => r = .returned (.bool true) ∧ Below w.heap.size w w' := by
  obtain ⟨a, cap, xs⟩ := x
  have hcode := code_of hx
  obtain ⟨n, hn⟩ : ∃ n, n = xs.length := ⟨_, rfl⟩
  have hle : n ≤ cap := by rw [hn]; exact hx.le
  rw [← hn] at hcode
  show Calls Try.prog 13 #[.slice a xs.length cap] w _
  rw [← hn]
  clear hn hx
  by_cases hbig : (1048576 : Int) < n
  · have hd : decide ((1048576 : Int) < n) = true := by simp; omega
    go_enter Try.func13, Try.ntmps13
    go_wp2_with (first | (go_at_call 33; refine (big_any a cap n w).mono ?_; rintro r w1 ⟨rfl, rfl⟩))
    go_ret
    exact ⟨rfl, by ((repeat (first | (with_reducible exact Below.refl _ _) | (with_reducible assumption) | (with_reducible refine Below.alloc ?_ ?_ _) | (with_reducible refine Below.setCell ?_ ?_ _) | (with_reducible refine Below.drew ?_) | (refine Below.trans ?_ (Below.mono (by assumption) ?_)))); all_goals (first | omega | (simp; done) | (simp; omega)))⟩
  · have hd : decide ((1048576 : Int) < n) = false := by simp; omega
    have hn1 : n ≤ 1048576 := by omega
    go_enter Try.func13, Try.ntmps13
    go_wp2_with (first | (go_at_call 33; refine (big_any a cap n w).mono ?_; rintro r w1 ⟨rfl, rfl⟩))
    refine (DrawEventWord_any a cap n w hcode hn1).mono ?_
    rintro r w1 ⟨x, rfl, hx0, hx1, hb1⟩
    have hz1 := hb1.size
    go_wp2_with fail
    refine (tail_any a cap n w1 (hcode.keep hb1) hn1 hle).mono ?_
    rintro r w2 ⟨a', n', cap', rfl, hn2, hc2, rfl⟩
    go_wp2_with fail
    refine (DrawEventWord_any a' cap' n' w1 hc2 hn2).mono ?_
    rintro r w2 ⟨y, rfl, hy0, hy1, hb2⟩
    have hz2 := hb2.size
    by_cases hxi : 1 ≤ x ∧ x ≤ 10
    · have hxe := ev_nonempty hxi.1 hxi.2
      by_cases hyi : 1 ≤ y ∧ y ≤ 10
      · have hye := ev_nonempty hyi.1 hyi.2
        by_cases hxy : x = y
        · subst hxy
          go_wp2_with (first
            | (go_at_call 19; refine (specEventWord_any _ _).mono ?_; rintro r w3 ⟨rfl, hb3⟩; obtain ⟨hc3, hf3⟩ := bcell hb3; have hz3 := hb3.size; (try simp only [World.size_alloc, World.size_setCell, World.size_drew] at hz3))
            | (go_at_call 20; refine (implEventWord_any _ _).mono ?_; rintro r w4 ⟨rfl, hb4⟩; obtain ⟨hc4, hf4⟩ := bcell hb4; have hz4 := hb4.size; (try simp only [World.size_alloc, World.size_setCell, World.size_drew] at hz4))
            | (go_at_call 15; refine (specErrorWord_any _ _).mono ?_; rintro r w5 ⟨rfl, hb5⟩; obtain ⟨hc5, hf5⟩ := bcell hb5; have hz5 := hb5.size; (try simp only [World.size_alloc, World.size_setCell, World.size_drew] at hz5))
            | (go_at_call 16; refine (implErrorWord_any _ _).mono ?_; rintro r w6 ⟨rfl, hb6⟩; obtain ⟨hc6, hf6⟩ := bcell hb6; have hz6 := hb6.size; (try simp only [World.size_alloc, World.size_setCell, World.size_drew] at hz6)))
          all_goals
            go_ret
            exact ⟨ret_bool (by first | rfl | (simp; omega) | (simp; done)), by ((repeat (first | (with_reducible exact Below.refl _ _) | (with_reducible assumption) | (with_reducible refine Below.alloc ?_ ?_ _) | (with_reducible refine Below.setCell ?_ ?_ _) | (with_reducible refine Below.drew ?_) | (refine Below.trans ?_ (Below.mono (by assumption) ?_)))); all_goals (first | omega | (simp; done) | (simp; omega)))⟩
        · have he1 := words_ne ev_inj hxi.1 hxi.2 hyi.1 hyi.2 hxy
          have he2 := words_ne err_inj hxi.1 hxi.2 hyi.1 hyi.2 hxy
          have he3 : (x == y) = false := by simp [hxy]
          go_wp2_with (first
            | (go_at_call 19; refine (specEventWord_any _ _).mono ?_; rintro r w3 ⟨rfl, hb3⟩; obtain ⟨hc3, hf3⟩ := bcell hb3; have hz3 := hb3.size; (try simp only [World.size_alloc, World.size_setCell, World.size_drew] at hz3))
            | (go_at_call 20; refine (implEventWord_any _ _).mono ?_; rintro r w4 ⟨rfl, hb4⟩; obtain ⟨hc4, hf4⟩ := bcell hb4; have hz4 := hb4.size; (try simp only [World.size_alloc, World.size_setCell, World.size_drew] at hz4))
            | (go_at_call 15; refine (specErrorWord_any _ _).mono ?_; rintro r w5 ⟨rfl, hb5⟩; obtain ⟨hc5, hf5⟩ := bcell hb5; have hz5 := hb5.size; (try simp only [World.size_alloc, World.size_setCell, World.size_drew] at hz5))
            | (go_at_call 16; refine (implErrorWord_any _ _).mono ?_; rintro r w6 ⟨rfl, hb6⟩; obtain ⟨hc6, hf6⟩ := bcell hb6; have hz6 := hb6.size; (try simp only [World.size_alloc, World.size_setCell, World.size_drew] at hz6)))
          all_goals
            go_ret
            exact ⟨ret_bool (by first | rfl | (simp; omega) | (simp; done)), by ((repeat (first | (with_reducible exact Below.refl _ _) | (with_reducible assumption) | (with_reducible refine Below.alloc ?_ ?_ _) | (with_reducible refine Below.setCell ?_ ?_ _) | (with_reducible refine Below.drew ?_) | (refine Below.trans ?_ (Below.mono (by assumption) ?_)))); all_goals (first | omega | (simp; done) | (simp; omega)))⟩
      · have hye := ev_out hyi
        go_wp2_with (first
            | (go_at_call 19; refine (specEventWord_any _ _).mono ?_; rintro r w3 ⟨rfl, hb3⟩; obtain ⟨hc3, hf3⟩ := bcell hb3; have hz3 := hb3.size; (try simp only [World.size_alloc, World.size_setCell, World.size_drew] at hz3))
            | (go_at_call 20; refine (implEventWord_any _ _).mono ?_; rintro r w4 ⟨rfl, hb4⟩; obtain ⟨hc4, hf4⟩ := bcell hb4; have hz4 := hb4.size; (try simp only [World.size_alloc, World.size_setCell, World.size_drew] at hz4))
            | (go_at_call 15; refine (specErrorWord_any _ _).mono ?_; rintro r w5 ⟨rfl, hb5⟩; obtain ⟨hc5, hf5⟩ := bcell hb5; have hz5 := hb5.size; (try simp only [World.size_alloc, World.size_setCell, World.size_drew] at hz5))
            | (go_at_call 16; refine (implErrorWord_any _ _).mono ?_; rintro r w6 ⟨rfl, hb6⟩; obtain ⟨hc6, hf6⟩ := bcell hb6; have hz6 := hb6.size; (try simp only [World.size_alloc, World.size_setCell, World.size_drew] at hz6)))
        all_goals
          go_ret
          exact ⟨ret_bool (by first | rfl | (simp; omega) | (simp; done)), by ((repeat (first | (with_reducible exact Below.refl _ _) | (with_reducible assumption) | (with_reducible refine Below.alloc ?_ ?_ _) | (with_reducible refine Below.setCell ?_ ?_ _) | (with_reducible refine Below.drew ?_) | (refine Below.trans ?_ (Below.mono (by assumption) ?_)))); all_goals (first | omega | (simp; done) | (simp; omega)))⟩
    · have hxe := ev_out hxi
      go_wp2_with (first
            | (go_at_call 19; refine (specEventWord_any _ _).mono ?_; rintro r w3 ⟨rfl, hb3⟩; obtain ⟨hc3, hf3⟩ := bcell hb3; have hz3 := hb3.size; (try simp only [World.size_alloc, World.size_setCell, World.size_drew] at hz3))
            | (go_at_call 20; refine (implEventWord_any _ _).mono ?_; rintro r w4 ⟨rfl, hb4⟩; obtain ⟨hc4, hf4⟩ := bcell hb4; have hz4 := hb4.size; (try simp only [World.size_alloc, World.size_setCell, World.size_drew] at hz4))
            | (go_at_call 15; refine (specErrorWord_any _ _).mono ?_; rintro r w5 ⟨rfl, hb5⟩; obtain ⟨hc5, hf5⟩ := bcell hb5; have hz5 := hb5.size; (try simp only [World.size_alloc, World.size_setCell, World.size_drew] at hz5))
            | (go_at_call 16; refine (implErrorWord_any _ _).mono ?_; rintro r w6 ⟨rfl, hb6⟩; obtain ⟨hc6, hf6⟩ := bcell hb6; have hz6 := hb6.size; (try simp only [World.size_alloc, World.size_setCell, World.size_drew] at hz6)))
      all_goals
        go_ret
        exact ⟨ret_bool (by first | rfl | (simp; omega) | (simp; done)), by ((repeat (first | (with_reducible exact Below.refl _ _) | (with_reducible assumption) | (with_reducible refine Below.alloc ?_ ?_ _) | (with_reducible refine Below.setCell ?_ ?_ _) | (with_reducible refine Below.drew ?_) | (refine Below.trans ?_ (Below.mono (by assumption) ?_)))); all_goals (first | omega | (simp; done) | (simp; omega)))⟩

set_option maxRecDepth 100000 in
theorem lifted (os : Os) (started : os.Started) (H : Type) (enc : TypeId × Value → H) :
    ReturnsInHanded {} Try.checked os 13 .any (Rows.fnWordsSpec.pre6 enc Try.prog Try.f13 Rows.fnWordsRow.domain false) (Rows.fnWordsSpec.post enc Try.prog Try.f13 false true false false) := by
  refine returnsInHanded_of_change (C := Try.checked) own started (by kernel_rfl) Try.func13
    (ChangeSpec.witness6 (enc := enc) (C := Try.checked) false ⟨#[], #[.slice none 0 0], []⟩ 8 (by kernel_rfl) (by kernel_rfl) (by kernel_rfl) (by kernel_rfl)) ?_
  intro W base args ds gs before hval0 hW hcnd _
  have hval : ∀ (j : Nat) t v, Try.f13.params[j]? = some t → args[j]? = some v → Value.okWide Try.prog W .any base t v := hval0
  have hW' := hW
  obtain ⟨p, q, hA0, hV, rfl, hfz, hnd⟩ := hW
  have hA : DataW.TrodAll enc Try.prog W 0 (fun _ => true) true Try.f13.params.toList args.toList ds p := hA0
  rw [Try.params13] at hA hval
  obtain ⟨v0, vs0, d0, ds0, p0, q0, hargs, rfl, rfl, h0, r0⟩ := trodAll_cons hA
  obtain ⟨rfl, rfl, rfl⟩ := trodAll_nil r0
  obtain rfl : args = #[v0] := by cases args; simp_all
  obtain ⟨rfl, rfl⟩ := trodVars_none hV
  have k0 := h0
  have lt0 : ∀ x ∈ p0, x.block < W.heap.size := by obtain ⟨m, hm⟩ := k0; exact DataW.trod_lt m _ _ _ hm
  obtain ⟨x0, e0, w0⟩ := openBytes (hval 0 43 v0 rfl rfl) h0
  subst e0
  clear hA0 hval0
  refine (walk W x0 w0).mono fun e W' ⟨he, bel⟩ => ?_
  subst he
  exact ⟨_, rfl, _, _, _, [], _, [], hW', trodAll_mk1 (shut_bool Try.underlying4 _), (trodAll_cons_mk (Below.trod laidOut (by kernel_rfl) (of_decide_eq_true (by kernel_rfl)) k0 bel lt0) trodAll_mk0), rfl, bel.frame _, fun h => by cases h⟩

theorem over : Rows.fnWordsRow.holds Try.pinned (OpenSpec.ofChange Rows.fnWordsSpec) :=
  OpenClaim.holds_of_wide 13 Try.f13 rfl rfl rfl rfl rfl rfl rfl ⟨rfl, rfl, rfl, rfl, rfl⟩ rfl rfl rfl rfl rfl (by kernel_rfl) Try.func13 (by kernel_rfl)
    (of_decide_eq_true (by kernel_rfl)) (by unfold Func.isWrapper; first | (rw [if_pos (by decide +kernel)]; kernel_rfl) | (rw [if_neg (by decide +kernel)]; exact ⟨rfl, rfl⟩))
    (fun os started H enc _ => lifted os started H enc)

/-- The given statement. -/
theorem proved : Rows.FnWordsSaid := over
end Go.Proofs.Ytkbjkpeklgdimaa.fnWords

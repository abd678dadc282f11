/- FnExactFrameOf: for every body the program's FrameOf returns what the reference's returns. No condition. -/
import Derived.Test.YtkmenljbajlneaaPut
namespace Go.Proofs.Ytkmenljbajlneaa.fnExactFrameOf
set_option linter.unusedSimpArgs false
set_option linter.unusedVariables false
open Go.ChangeShapes Go.WideShapes Go.ChangeAt Go.RowKit

theorem specFrameOf_any (s : ByteArray) (k : Nat) (w : World) (hs : s.size ≤ 1048576) (hk : IsLen s.size k) :
    Calls Try.prog 15 #[.string s] w fun r w' => r = .returned (.string (⟨(putB s.size k).toArray⟩ ++ s)) ∧ Below w.heap.size w w' := by
  have hk9 := len_le (show s.size < 2 ^ 64 by omega) hk.below
  go_enter Try.func15, Try.ntmps15
  go_wp2_with fail
  refine (specPutVar_any s.size _ (by omega)).mono ?_
  rintro r w1 ⟨⟨k', hk', rfl⟩, hb⟩
  obtain rfl := IsLen.uniq hk hk'
  clear hk' hk
  have hz : (⟨(putB s.size k).toArray⟩ : ByteArray).size = k + 1 := putB_bytes _ _
  obtain ⟨t, ht⟩ : ∃ t, t = (⟨(putB s.size k).toArray⟩ : ByteArray) := ⟨_, rfl⟩
  rw [← ht] at hz ⊢
  have HT := Lib.hid ht; clear ht
  go_wp2
  go_ret
  exact ⟨by rw [← HT.out]; rfl, hb⟩
theorem implFrameOf_any (s : ByteArray) (k : Nat) (w : World) (hs : s.size ≤ 1048576) (hk : IsLen s.size k) :
    Calls Try.prog 16 #[.string s] w fun r w' => r = .returned (.string (⟨(putB s.size k).toArray⟩ ++ s)) ∧ Below w.heap.size w w' := by
  have hk9 := len_le (show s.size < 2 ^ 64 by omega) hk.below
  go_enter Try.func16, Try.ntmps16
  go_wp2_with fail
  refine (implPutVar_any s.size _ (by omega)).mono ?_
  rintro r w1 ⟨⟨k', hk', rfl⟩, hb⟩
  obtain rfl := IsLen.uniq hk hk'
  clear hk' hk
  have hz : (⟨(putB s.size k).toArray⟩ : ByteArray).size = k + 1 := putB_bytes _ _
  obtain ⟨t, ht⟩ : ∃ t, t = (⟨(putB s.size k).toArray⟩ : ByteArray) := ⟨_, rfl⟩
  rw [← ht] at hz ⊢
  have HT := Lib.hid ht; clear ht
  go_wp2
  go_ret
  exact ⟨by rw [← HT.out]; rfl, hb⟩
/-- Every number has a length. -/
theorem len_ex (n : Nat) : ∃ k, IsLen n k := by
  suffices h : ∀ (m n : Nat), n ≤ m → ∃ k, IsLen n k from h n n (Nat.le_refl _)
  intro m
  induction m with
  | zero => intro n h; exact ⟨0, by omega, by omega⟩
  | succ m ih =>
    intro n h
    by_cases hn : n ≤ 127
    · exact ⟨0, by omega, by simpa using hn⟩
    · obtain ⟨k, hk⟩ := ih (n / 128) (by omega)
      have e : ∀ j, n / 128 / 128 ^ j = n / 128 ^ (j + 1) := fun j => by rw [Nat.div_div_eq_div_mul, Nat.pow_succ, Nat.mul_comm]
      refine ⟨k + 1, fun j hj => ?_, by rw [← e]; exact hk.last⟩
      match j, hj with
      | 0, _ => simpa using hn
      | j + 1, hj => rw [← e]; exact hk.below j (by omega)
theorem walk (w : World) (s : ByteArray) (hs : s.size ≤ maxLen) :
    Calls Try.prog 3 #[.string s] w fun r w' => r = .returned (.bool true) ∧ Below w.heap.size w w' := by
  obtain ⟨k, hk⟩ := len_ex s.size
  have HK := Lib.hid hk; clear hk
  unfold maxLen at hs
  by_cases hl : s.size ≤ 1048576
  · go_enter Try.func3, Try.ntmps3
    go_wp2_with (first | (go_at_call 15; refine (specFrameOf_any s k _ hl HK.out).mono ?_; rintro r w1 ⟨rfl, hb1⟩; obtain ⟨hc1, hf1⟩ := bcell hb1; have hz1 := hb1.size; (try simp only [World.size_alloc, World.size_setCell, World.size_drew] at hz1)) | (go_at_call 16; refine (implFrameOf_any s k _ hl HK.out).mono ?_; rintro r w2 ⟨rfl, hb2⟩; obtain ⟨hc2, hf2⟩ := bcell hb2; have hz2 := hb2.size; (try simp only [World.size_alloc, World.size_setCell, World.size_drew] at hz2)))
    go_ret
    exact ⟨rfl, by ((repeat (first | (with_reducible exact Below.refl _ _) | (with_reducible assumption) | (with_reducible refine Below.alloc ?_ ?_ _) | (with_reducible refine Below.setCell ?_ ?_ _) | (with_reducible refine Below.drew ?_) | (with_reducible refine below_setRow ?_ ?_ _) | (refine Below.trans ?_ (Below.mono (by assumption) ?_)))); all_goals (first | omega | (simp; done) | (simp; omega)))⟩
  · go_enter Try.func3, Try.ntmps3
    go_wp2
    go_ret
    exact ⟨rfl, by ((repeat (first | (with_reducible exact Below.refl _ _) | (with_reducible assumption) | (with_reducible refine Below.alloc ?_ ?_ _) | (with_reducible refine Below.setCell ?_ ?_ _) | (with_reducible refine Below.drew ?_) | (with_reducible refine below_setRow ?_ ?_ _) | (refine Below.trans ?_ (Below.mono (by assumption) ?_)))); all_goals (first | omega | (simp; done) | (simp; omega)))⟩
set_option maxRecDepth 100000 in
theorem lifted (os : Os) (started : os.Started) (H : Type) (enc : TypeId × Value → H) :
    ReturnsInHanded {} Try.checked os 3 .any (Rows.fnExactFrameOfSpec.pre6 enc Try.prog Try.f3 Rows.fnExactFrameOfRow.domain false) (Rows.fnExactFrameOfSpec.post enc Try.prog Try.f3 false true false false) := by
  refine returnsInHanded_of_change (C := Try.checked) own started (by kernel_rfl) Try.func3
    (ChangeSpec.witness6 (enc := enc) (C := Try.checked) false ⟨#[], #[.string ByteArray.empty], []⟩ 8 (by kernel_rfl) (by kernel_rfl) (by kernel_rfl) (by kernel_rfl)) ?_
  intro W base args ds gs before hval0 hW hcnd _
  have hval : ∀ (j : Nat) t v, Try.f3.params[j]? = some t → args[j]? = some v → Value.okWide Try.prog W .any base t v := hval0
  have hW' := hW
  obtain ⟨p, q, hA0, hV, rfl, hfz, hnd⟩ := hW
  have hA : DataW.TrodAll enc Try.prog W 0 (fun _ => true) true Try.f3.params.toList args.toList ds p := hA0
  rw [Try.params3] at hA hval
  obtain ⟨v0, vs0, d0, ds0, p0, q0, hargs, rfl, rfl, h0, r0⟩ := trodAll_cons hA
  obtain ⟨rfl, rfl, rfl⟩ := trodAll_nil r0
  obtain rfl : args = #[v0] := by cases args; simp_all
  obtain ⟨rfl, rfl⟩ := trodVars_none hV
  have k0 := h0
  have lt0 : ∀ x ∈ p0, x.block < W.heap.size := by obtain ⟨m, hm⟩ := k0; exact DataW.trod_lt m _ _ _ hm
  obtain ⟨x0, e0, w0⟩ := openStr Try.underlying9 (hval 0 9 v0 rfl rfl) h0
  subst e0
  clear hA0 hval0
  refine (walk W x0 w0).mono fun e W' ⟨he, bel⟩ => ?_
  subst he
  exact ⟨_, rfl, _, _, _, [], _, [], hW', trodAll_mk1 (shut_bool Try.underlying4 _), (trodAll_cons_mk (Below.trod laidOut (by kernel_rfl) (of_decide_eq_true (by kernel_rfl)) k0 bel lt0) trodAll_mk0), rfl, bel.frame _, fun h => by cases h⟩

theorem over : Rows.fnExactFrameOfRow.holds Try.pinned (OpenSpec.ofChange Rows.fnExactFrameOfSpec) :=
  OpenClaim.holds_of_wide 3 Try.f3 rfl rfl rfl rfl rfl rfl rfl ⟨rfl, rfl, rfl, rfl, rfl⟩ rfl rfl rfl rfl rfl (by kernel_rfl) Try.func3 (by kernel_rfl)
    (of_decide_eq_true (by kernel_rfl)) (by unfold Func.isWrapper; first | (rw [if_pos (by decide +kernel)]; kernel_rfl) | (rw [if_neg (by decide +kernel)]; exact ⟨rfl, rfl⟩))
    (fun os started H enc _ => lifted os started H enc)

/-- The given statement. -/
theorem proved : Rows.FnExactFrameOfSaid := over
end Go.Proofs.Ytkmenljbajlneaa.fnExactFrameOf

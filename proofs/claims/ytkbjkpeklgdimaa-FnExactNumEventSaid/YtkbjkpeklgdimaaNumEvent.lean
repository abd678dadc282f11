/- FnExactNumEvent: for every field and every number the program's NumEvent returns what the reference's returns. No condition. -/
import Derived.Test.YtkbjkpeklgdimaaFld
namespace Go.Proofs.Ytkbjkpeklgdimaa.fnExactNumEvent
set_option linter.unusedSimpArgs false
set_option linter.unusedVariables false
open Go.ChangeShapes Go.WideShapes Go.ChangeAt Go.RowKit

theorem walk (w : World) (f : Fld) (hf : f.ok) (u : Int) (hu : (Lit.int .u64 u).wf = true) :
    Calls Try.prog 9 #[f.val, .int .u64 u] w fun r w' => r = .returned (.bool true) ∧ Below w.heap.size w w' := by
  have h0 : 0 ≤ u := (WU64.lo hu).1
  clear hu
  go_enter Try.func9, Try.ntmps9
  go_wp2_with fail
  refine (toField_any f _).mono ?_
  rintro r w1 ⟨rfl, hb1⟩
  obtain ⟨hc1, hf1⟩ := bcell hb1
  have hz1 := hb1.size
  try simp only [World.size_alloc, World.size_setCell, World.size_drew] at hz1
  try (have hq1_0 : w.heap.size < w1.heap.size := by omega)
  try (have hr1_1 : w.heap.size + 1 < w1.heap.size := by omega)
  go_wp2_with fail
  refine (specNumEvent_any f _ _).mono ?_
  rintro r w2 ⟨rfl, hb2⟩
  obtain ⟨hc2, hf2⟩ := bcell hb2
  have hz2 := hb2.size
  try simp only [World.size_alloc, World.size_setCell, World.size_drew] at hz2
  try (have hq2_0 : w.heap.size < w2.heap.size := by omega)
  try (have hq2_1 : w1.heap.size < w2.heap.size := by omega)
  try (have hr2_1 : w.heap.size + 1 < w2.heap.size := by omega)
  go_wp2_with fail
  refine (toField_any f _).mono ?_
  rintro r w3 ⟨rfl, hb3⟩
  obtain ⟨hc3, hf3⟩ := bcell hb3
  have hz3 := hb3.size
  try simp only [World.size_alloc, World.size_setCell, World.size_drew] at hz3
  try (have hq3_0 : w.heap.size < w3.heap.size := by omega)
  try (have hq3_1 : w1.heap.size < w3.heap.size := by omega)
  try (have hq3_2 : w2.heap.size < w3.heap.size := by omega)
  try (have hr3_1 : w.heap.size + 1 < w3.heap.size := by omega)
  go_wp2_with fail
  refine (implNumEvent_any f _ _ h0).mono ?_
  rintro r w4 ⟨rfl, hb4⟩
  obtain ⟨hc4, hf4⟩ := bcell hb4
  have hz4 := hb4.size
  try simp only [World.size_alloc, World.size_setCell, World.size_drew] at hz4
  try (have hq4_0 : w.heap.size < w4.heap.size := by omega)
  try (have hq4_1 : w1.heap.size < w4.heap.size := by omega)
  try (have hq4_2 : w2.heap.size < w4.heap.size := by omega)
  try (have hq4_3 : w3.heap.size < w4.heap.size := by omega)
  try (have hr4_1 : w.heap.size + 1 < w4.heap.size := by omega)
  go_wp2_with fail
  refine (eqEvent_any (numEv f u) (numEv f u) _).mono ?_
  rintro r w5 ⟨rfl, hb5⟩
  obtain ⟨hc5, hf5⟩ := bcell hb5
  have hz5 := hb5.size
  try simp only [World.size_alloc, World.size_setCell, World.size_drew] at hz5
  try (have hq5_0 : w.heap.size < w5.heap.size := by omega)
  try (have hq5_1 : w1.heap.size < w5.heap.size := by omega)
  try (have hq5_2 : w2.heap.size < w5.heap.size := by omega)
  try (have hq5_3 : w3.heap.size < w5.heap.size := by omega)
  try (have hq5_4 : w4.heap.size < w5.heap.size := by omega)
  try (have hr5_1 : w.heap.size + 1 < w5.heap.size := by omega)
  go_wp2
  go_ret
  exact ⟨rfl, by ((repeat (first | (with_reducible exact Below.refl _ _) | (with_reducible assumption) | (with_reducible refine Below.alloc ?_ ?_ _) | (with_reducible refine Below.setCell ?_ ?_ _) | (with_reducible refine Below.drew ?_) | (refine Below.trans ?_ (Below.mono (by assumption) ?_)))); all_goals (first | omega | (simp; done) | (simp; omega)))⟩

set_option maxRecDepth 100000 in
theorem lifted (os : Os) (started : os.Started) (H : Type) (enc : TypeId × Value → H) :
    ReturnsInHanded {} Try.checked os 9 .any (Rows.fnExactNumEventSpec.pre6 enc Try.prog Try.f9 Rows.fnExactNumEventRow.domain false) (Rows.fnExactNumEventSpec.post enc Try.prog Try.f9 false true false false) := by
  refine returnsInHanded_of_change (C := Try.checked) own started (by kernel_rfl) Try.func9
    (ChangeSpec.witness6 (enc := enc) (C := Try.checked) false ⟨#[], #[.agg #[.int .i64 0, .int .i64 0, .bool false, .bool false, .int .i64 0], .int .u64 0], []⟩ 8 (by kernel_rfl) (by kernel_rfl) (by kernel_rfl) (by kernel_rfl)) ?_
  intro W base args ds gs before hval0 hW hcnd _
  have hval : ∀ (j : Nat) t v, Try.f9.params[j]? = some t → args[j]? = some v → Value.okWide Try.prog W .any base t v := hval0
  have hW' := hW
  obtain ⟨p, q, hA0, hV, rfl, hfz, hnd⟩ := hW
  have hA : DataW.TrodAll enc Try.prog W 0 (fun _ => true) true Try.f9.params.toList args.toList ds p := hA0
  rw [Try.params9] at hA hval
  obtain ⟨v0, vs0, d0, ds0, p0, q0, hargs, rfl, rfl, h0, r0⟩ := trodAll_cons hA
  obtain ⟨v1, vs1, d1, ds1, p1, q1, rfl, rfl, rfl, h1, r1⟩ := trodAll_cons r0
  obtain ⟨rfl, rfl, rfl⟩ := trodAll_nil r1
  obtain rfl : args = #[v0, v1] := by cases args; simp_all
  obtain ⟨rfl, rfl⟩ := trodVars_none hV
  have k0 := h0
  have lt0 : ∀ x ∈ p0, x.block < W.heap.size := by obtain ⟨m, hm⟩ := k0; exact DataW.trod_lt m _ _ _ hm
  obtain ⟨x0, e0, w0⟩ := openFld (hval 0 25 v0 rfl rfl) h0
  subst e0
  have k1 := h1
  have lt1 : ∀ x ∈ p1, x.block < W.heap.size := by obtain ⟨m, hm⟩ := k1; exact DataW.trod_lt m _ _ _ hm
  obtain ⟨x1, e1, w1⟩ := openInt Try.underlying30 (hval 1 30 v1 rfl rfl) h1
  subst e1
  clear hA0 hval0
  refine (walk W x0 w0 x1 w1).mono fun e W' ⟨he, bel⟩ => ?_
  subst he
  exact ⟨_, rfl, _, _, _, [], _, [], hW', trodAll_mk1 (shut_bool Try.underlying4 _), (trodAll_cons_mk (Below.trod laidOut (by kernel_rfl) (of_decide_eq_true (by kernel_rfl)) k0 bel lt0) (trodAll_cons_mk (Below.trod laidOut (by kernel_rfl) (of_decide_eq_true (by kernel_rfl)) k1 bel lt1) trodAll_mk0)), rfl, bel.frame _, fun h => by cases h⟩

theorem over : Rows.fnExactNumEventRow.holds Try.pinned (OpenSpec.ofChange Rows.fnExactNumEventSpec) :=
  OpenClaim.holds_of_wide 9 Try.f9 rfl rfl rfl rfl rfl rfl rfl ⟨rfl, rfl, rfl, rfl, rfl⟩ rfl rfl rfl rfl rfl (by kernel_rfl) Try.func9 (by kernel_rfl)
    (of_decide_eq_true (by kernel_rfl)) (by unfold Func.isWrapper; first | (rw [if_pos (by decide +kernel)]; kernel_rfl) | (rw [if_neg (by decide +kernel)]; exact ⟨rfl, rfl⟩))
    (fun os started H enc _ => lifted os started H enc)

/-- The given statement. -/
theorem proved : Rows.FnExactNumEventSaid := over
end Go.Proofs.Ytkbjkpeklgdimaa.fnExactNumEvent

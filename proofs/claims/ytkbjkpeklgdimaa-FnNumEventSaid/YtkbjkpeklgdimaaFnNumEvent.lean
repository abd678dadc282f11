/- FnNumEvent: for every code, numeric values are reported unchanged, booleans as 0 or 1. No condition. -/
import Derived.Test.YtkbjkpeklgdimaaFld
import Derived.Test.YtkbjkpeklgdimaaDraw
namespace Go.Proofs.Ytkbjkpeklgdimaa.fnNumEvent
set_option linter.unusedSimpArgs false
set_option linter.unusedVariables false
open Go.ChangeShapes Go.WideShapes Go.ChangeAt Go.RowKit

/-- A field and a number of 64 bits. -/
def GivenFU (w : World) (r : Ending) (w' : World) : Prop := ∃ (f : Fld) (u : Int), r = .returned (.tuple #[f.val, .int .u64 u]) ∧ WU64 u ∧ Below w.heap.size w w'
set_option maxHeartbeats 2000000 in
theorem DrawNumEvent_any (a : Option Addr) (cap n : Nat) (w : World) (h : Code w a n) (hn : n ≤ 1048576) :
    Calls Try.prog 45 #[.slice a n cap] w (GivenFU w) := by
  go_enter Try.func45, Try.ntmps45
  go_wp2_with fail
  refine (l1New_any a cap n _ (h.keep ((Below.refl _ _).alloc (Nat.le_refl _) _)) hn).mono ?_
  rintro r w1 ⟨B, rfl, hB, hc1, hb1⟩
  have hB' : w.heap.size < B := by simp at hB; omega
  have g0 := heap_alloc_new w (.cells #[.int .i64 0, .int .i64 0, .bool false, .bool false, .int .i64 0] 27)
  have g1 := (hb1.block w.heap.size (by simp)).trans g0
  have z1 := hb1.size
  simp only [World.size_alloc] at z1
  go_wp2_with fail
  refine (l1Below_any B 9 w1 hc1 (by omega) (by omega)).mono ?_
  rintro r w2 ⟨x, rfl, hx0, hx1, hc2, ho2⟩
  have g2 := (ho2.block (b := w.heap.size) (by omega) (by omega)).trans g1
  have z2 := ho2.size
  clear g0 g1
  have G2 := Lib.hid g2; clear g2
  go_wp2_with fail
  refine (l1Below_any B 8 w2 hc2 (by omega) (by omega)).mono ?_
  rintro r w3 ⟨y, rfl, hy0, hy1, hc3, ho3⟩
  have G3 := Lib.hid ((ho3.block (b := w.heap.size) (by omega) (by omega)).trans G2.out)
  have z3 := ho3.size
  go_wp2_with fail
  refine (l1Wide_any B w3 hc3).mono ?_
  rintro r w4 ⟨u, rfl, hu, hc4, ho4⟩
  have G4 := Lib.hid ((ho4.block (b := w.heap.size) (by omega) (by omega)).trans G3.out)
  have c0 : w4.cell? ⟨w.heap.size, 0, none⟩ = some (.int .i64 0) := by simp [World.cell?, G4.out]
  have c1 : w4.cell? ⟨w.heap.size, 1, none⟩ = some (.int .i64 0) := by simp [World.cell?, G4.out]
  have c2 : w4.cell? ⟨w.heap.size, 2, none⟩ = some (.bool false) := by simp [World.cell?, G4.out]
  have c3 : w4.cell? ⟨w.heap.size, 3, none⟩ = some (.bool false) := by simp [World.cell?, G4.out]
  have c4 : w4.cell? ⟨w.heap.size, 4, none⟩ = some (.int .i64 0) := by simp [World.cell?, G4.out]
  have hfz : ∀ j, w4.frozen? ⟨w.heap.size, j, none⟩ = false := fun j => by simp [World.frozen?, G4.out]
  have z4 := ho4.size
  have HB := hb1.mono (B' := w.heap.size) (by simp)
  have HB2 := ho2.below (n := w.heap.size) (by omega) hc1.lt
  have HB3 := ho3.below (n := w.heap.size) (by omega) hc2.lt
  have HB4 := ho4.below (n := w.heap.size) (by omega) hc3.lt
  go_wp2
  refine bodyPost_ret (v := .tuple #[Fld.val ⟨1 + x, 1 + y, false, false, 0⟩, .int .u64 u]) (by simp [results, Try.results45, go_sem, c0, c1, c2, c3, c4]) rfl ⟨_, _, rfl, hu, ?_⟩
  ((repeat (first | (with_reducible exact Below.refl _ _) | (with_reducible assumption) | (with_reducible refine Below.alloc ?_ ?_ _) | (with_reducible refine Below.setCell ?_ ?_ _) | (with_reducible refine Below.drew ?_) | (refine Below.trans ?_ (Below.mono (by assumption) ?_)))); all_goals (first | omega | (simp; done) | (simp; omega)))

theorem run_eql_ev (k f b l c a k' f' b' l' c' a' : Int) (t t' : ByteArray) (w : World) :
    (binOp .eql 35 (.agg #[.int .i64 k, .int .i64 f, .int .u64 b, .int .i64 l, .string t, .int .i64 c, .int .i64 a]) (.agg #[.int .i64 k', .int .i64 f', .int .u64 b', .int .i64 l', .string t', .int .i64 c', .int .i64 a'])).run Try.prog w
      = .ok (.bool (sameEv (Ev.mk k f b l t c a) (Ev.mk k' f' b' l' t' c' a'))) w := by
  simp [go_sem, beq_bytes, sameEv]
  by_cases h1 : k = k' <;> by_cases h2 : f = f' <;> by_cases h3 : b = b' <;> by_cases h4 : l = l' <;> by_cases h5 : t = t' <;> by_cases h6 : c = c' <;> by_cases h7 : a = a' <;> simp [h1, h2, h3, h4, h5, h6, h7]

theorem bitsFit3 (u : Int) (w : World) (h : u ≤ 1) : Calls Try.prog 46 #[.int .i64 3, .int .u64 u] w fun r w' => r = .returned (.bool true) ∧ w = w' := by
  go_enter Try.func46, Try.ntmps46
  go_wp2
  go_ret
  exact ⟨ret_bool (by simp [h]), rfl⟩
set_option maxRecDepth 100000 in
set_option maxHeartbeats 8000000 in
theorem walk (w : World) (x : SlArg Int) (hx : x.ok 1 byCs ByOk w) :
    Calls Try.prog 12 #[x.val] w fun r w' => r = .returned (.bool true) ∧ Below w.heap.size w w' := by
  obtain ⟨a, cap, xs⟩ := x
  have hcode := code_of hx
  obtain ⟨n, hn⟩ : ∃ n, n = xs.length := ⟨_, rfl⟩
  rw [← hn] at hcode
  show Calls Try.prog 12 #[.slice a xs.length cap] w _
  rw [← hn]
  clear hn hx
  by_cases hbig : (1048576 : Int) < n
  · have hd : decide ((1048576 : Int) < n) = true := by simp; omega
    go_enter Try.func12, Try.ntmps12
    go_wp2_with (first | (go_at_call 33; refine (big_any a cap n w).mono ?_; rintro r w1 ⟨rfl, rfl⟩))
    go_ret
    exact ⟨rfl, by ((repeat (first | (with_reducible exact Below.refl _ _) | (with_reducible assumption) | (with_reducible refine Below.alloc ?_ ?_ _) | (with_reducible refine Below.setCell ?_ ?_ _) | (with_reducible refine Below.drew ?_) | (refine Below.trans ?_ (Below.mono (by assumption) ?_)))); all_goals (first | omega | (simp; done) | (simp; omega)))⟩
  · have hd : decide ((1048576 : Int) < n) = false := by simp; omega
    have hn1 : n ≤ 1048576 := by omega
    go_enter Try.func12, Try.ntmps12
    go_wp2_with (first | (go_at_call 33; refine (big_any a cap n w).mono ?_; rintro r w1 ⟨rfl, rfl⟩))
    refine (DrawNumEvent_any a cap n w hcode hn1).mono ?_
    rintro r w1 ⟨f, u, rfl, hu, hb1⟩
    obtain ⟨hc1, hf1⟩ := bcell hb1
    have hz1 := hb1.size
    have h0 : 0 ≤ u := (WU64.lo hu).1
    clear hu
    go_wp2_with fail
    refine (implNumEvent_any f u _ h0).mono ?_
    rintro r w2 ⟨rfl, hb2⟩
    obtain ⟨hc2, hf2⟩ := bcell hb2
    have hz2 := hb2.size
    try simp only [World.size_alloc, World.size_setCell, World.size_drew] at hz2
    have hq2 : w1.heap.size < w2.heap.size := by omega
    have hne := run_eql_ev
    by_cases hk : f.kind = 3
    · have hk3 : (f.kind == 3) = true := by simp [hk]
      have hs : sameEv ⟨(numEv f u).kind, (numEv f u).field, (numEv f u).bits, (numEv f u).len, (numEv f u).text, (numEv f u).code, (numEv f u).at_⟩ ⟨2, f.number, (numEv f u).bits, 0, ⟨#[]⟩, 0, 0⟩ = true := by simp [sameEv, numEv]
      have hle1 : (numEv f u).bits ≤ 1 := by simp only [numEv, numBits]; split <;> omega
      by_cases hu0 : u = 0
      · have e1 : (u == 0) = true := by simp [hu0]
        have e2 : ((numEv f u).bits == 0) = true := by simp [numEv, numBits, hu0]
        clear hu0
        go_wp2_with (first | (go_at_call 46; refine (bitsFit3 _ _ hle1).mono ?_; rintro r w3 ⟨rfl, rfl⟩))
        go_ret
        exact ⟨rfl, by ((repeat (first | (with_reducible exact Below.refl _ _) | (with_reducible assumption) | (with_reducible refine Below.alloc ?_ ?_ _) | (with_reducible refine Below.setCell ?_ ?_ _) | (with_reducible refine Below.drew ?_) | (refine Below.trans ?_ (Below.mono (by assumption) ?_)))); all_goals (first | omega | (simp; done) | (simp; omega)))⟩
      · have e1 : (u == 0) = false := by simp [hu0]
        have e2 : ((numEv f u).bits == 0) = false := by simp only [numEv, numBits]; split <;> simp <;> omega
        clear hu0
        go_wp2_with (first | (go_at_call 46; refine (bitsFit3 _ _ hle1).mono ?_; rintro r w3 ⟨rfl, rfl⟩))
        go_ret
        exact ⟨rfl, by ((repeat (first | (with_reducible exact Below.refl _ _) | (with_reducible assumption) | (with_reducible refine Below.alloc ?_ ?_ _) | (with_reducible refine Below.setCell ?_ ?_ _) | (with_reducible refine Below.drew ?_) | (refine Below.trans ?_ (Below.mono (by assumption) ?_)))); all_goals (first | omega | (simp; done) | (simp; omega)))⟩
    · have hk3 : (f.kind == 3) = false := by simp [hk]
      have hs : sameEv ⟨(numEv f u).kind, (numEv f u).field, (numEv f u).bits, (numEv f u).len, (numEv f u).text, (numEv f u).code, (numEv f u).at_⟩ ⟨2, f.number, u, 0, ⟨#[]⟩, 0, 0⟩ = true := by simp [sameEv, numEv, numBits, hk]
      go_wp2_with fail
      go_ret
      exact ⟨ret_bool (by simp [hs]), by ((repeat (first | (with_reducible exact Below.refl _ _) | (with_reducible assumption) | (with_reducible refine Below.alloc ?_ ?_ _) | (with_reducible refine Below.setCell ?_ ?_ _) | (with_reducible refine Below.drew ?_) | (refine Below.trans ?_ (Below.mono (by assumption) ?_)))); all_goals (first | omega | (simp; done) | (simp; omega)))⟩

set_option maxRecDepth 100000 in
theorem lifted (os : Os) (started : os.Started) (H : Type) (enc : TypeId × Value → H) :
    ReturnsInHanded {} Try.checked os 12 .any (Rows.fnNumEventSpec.pre6 enc Try.prog Try.f12 Rows.fnNumEventRow.domain false) (Rows.fnNumEventSpec.post enc Try.prog Try.f12 false true false false) := by
  refine returnsInHanded_of_change (C := Try.checked) own started (by kernel_rfl) Try.func12
    (ChangeSpec.witness6 (enc := enc) (C := Try.checked) false ⟨#[], #[.slice none 0 0], []⟩ 8 (by kernel_rfl) (by kernel_rfl) (by kernel_rfl) (by kernel_rfl)) ?_
  intro W base args ds gs before hval0 hW hcnd _
  have hval : ∀ (j : Nat) t v, Try.f12.params[j]? = some t → args[j]? = some v → Value.okWide Try.prog W .any base t v := hval0
  have hW' := hW
  obtain ⟨p, q, hA0, hV, rfl, hfz, hnd⟩ := hW
  have hA : DataW.TrodAll enc Try.prog W 0 (fun _ => true) true Try.f12.params.toList args.toList ds p := hA0
  rw [Try.params12] at hA hval
  obtain ⟨v0, vs0, d0, ds0, p0, q0, hargs, rfl, rfl, h0, r0⟩ := trodAll_cons hA
  obtain ⟨rfl, rfl, rfl⟩ := trodAll_nil r0
  obtain rfl : args = #[v0] := by cases args; simp_all
  obtain ⟨rfl, rfl⟩ := trodVars_none hV
  have k0 := h0
  have lt0 : ∀ x ∈ p0, x.block < W.heap.size := by obtain ⟨m, hm⟩ := k0; exact DataW.trod_lt m _ _ _ hm
  obtain ⟨x0, e0, w0⟩ := openBytes (hval 0 43 v0 rfl rfl) h0
  subst e0
  clear hA0 hval0
  refine (walk W x0 w0).mono fun e W' ⟨he, bel⟩ => ?_
  subst he
  exact ⟨_, rfl, _, _, _, [], _, [], hW', trodAll_mk1 (shut_bool Try.underlying4 _), (trodAll_cons_mk (Below.trod laidOut (by kernel_rfl) (of_decide_eq_true (by kernel_rfl)) k0 bel lt0) trodAll_mk0), rfl, bel.frame _, fun h => by cases h⟩

theorem over : Rows.fnNumEventRow.holds Try.pinned (OpenSpec.ofChange Rows.fnNumEventSpec) :=
  OpenClaim.holds_of_wide 12 Try.f12 rfl rfl rfl rfl rfl rfl rfl ⟨rfl, rfl, rfl, rfl, rfl⟩ rfl rfl rfl rfl rfl (by kernel_rfl) Try.func12 (by kernel_rfl)
    (of_decide_eq_true (by kernel_rfl)) (by unfold Func.isWrapper; first | (rw [if_pos (by decide +kernel)]; kernel_rfl) | (rw [if_neg (by decide +kernel)]; exact ⟨rfl, rfl⟩))
    (fun os started H enc _ => lifted os started H enc)

/-- The given statement. -/
theorem proved : Rows.FnNumEventSaid := over
end Go.Proofs.Ytkbjkpeklgdimaa.fnNumEvent

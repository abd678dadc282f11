/- A schema drawn: the reference's l8Right. -/
import Derived.Test.YtbgejldjgkihaaaL6R
import Derived.Test.YtbgejldjgkihaaaCmpW
import Derived.Test.YtbgejldjgkihaaaShG
namespace Go.Proofs.Ytbgejldjgkihaaa
set_option linter.unusedSimpArgs false
set_option linter.unusedVariables false
open Go.ChangeShapes Go.WideShapes Go.ChangeAt Go.RowKit Go.BigFrame

theorem fldSum_mul {xs : List Shp} {m : Nat} (h : ∀ x ∈ xs, x.flds.length ≤ m) : fldSum xs ≤ m * xs.length := by
  induction xs with
  | nil => simp [fldSum]
  | cons x xs ih =>
    have h1 := ih fun y hy => h y (List.mem_cons_of_mem _ hy)
    have h2 := h x (List.mem_cons_self ..)
    simp only [fldSum, List.map_cons, List.sum_cons, List.length_cons, Nat.mul_succ] at h1 ⊢
    omega
theorem w64_of {u : Int} (h0 : -1000000000 ≤ u) (h1 : u ≤ 1000000000) : W64 u := by
  unfold W64; simp [Lit.wf, IntKind.min, IntKind.max, IntKind.signed, IntKind.bits]; omega
theorem putF_mem : ∀ {fs : List Fld} {f g : Fld}, g ∈ putF fs f → g = f ∨ g ∈ fs
  | [], f, g, h => by simp [putF] at h; exact .inl h
  | k :: fs, f, g, h => by
    unfold putF at h
    split at h
    · rcases List.mem_cons.1 h with rfl | h
      · exact .inr (List.mem_cons_self ..)
      · rcases putF_mem h with rfl | h
        · exact .inl rfl
        · exact .inr (List.mem_cons_of_mem _ h)
    · rcases List.mem_cons.1 h with rfl | h
      · exact .inl rfl
      · exact .inr h
theorem cflds_mem {xs : List Shp} : ∀ {fs l : List Fld} {g : Fld}, g ∈ cflds xs l fs → g ∈ l ∨ ∃ f ∈ fs, g = cfld xs f
  | [], l, g, h => .inl h
  | f :: fs, l, g, h => by
    rw [cflds] at h
    rcases cflds_mem h with h1 | ⟨f', hf, rfl⟩
    · rcases putF_mem h1 with rfl | h2
      · exact .inr ⟨f, List.mem_cons_self .., rfl⟩
      · exact .inl h2
    · exact .inr ⟨f', List.mem_cons_of_mem _ hf, rfl⟩
theorem cgo_mem {xs : List Shp} : ∀ {rest ys : List Shp} {y : Shp}, y ∈ cgo xs ys rest → y ∈ ys ∨ ∃ x ∈ rest, y = ⟨x.id, cflds xs [] x.flds⟩
  | [], ys, y, h => .inl h
  | x :: rest, ys, y, h => by
    rw [cgo] at h
    rcases cgo_mem h with h1 | ⟨x', hx, rfl⟩
    · rcases List.mem_or_eq_of_mem_set h1 with h2 | rfl
      · exact .inl h2
      · exact .inr ⟨x, List.mem_cons_self .., rfl⟩
    · exact .inr ⟨x', List.mem_cons_of_mem _ hx, rfl⟩
theorem compS_mem {xs : List Shp} {y : Shp} (h : y ∈ compS xs) : y = ⟨0, []⟩ ∨ ∃ x ∈ xs, y = ⟨x.id, cflds xs [] x.flds⟩ := by
  rcases cgo_mem h with h1 | h1
  · exact .inl (List.mem_replicate.1 h1).2
  · exact .inr h1
/-- A schema whose fields lead to its own shapes. -/
structure SchG (xs : List Shp) : Prop where
  len : ∀ x ∈ xs, x.flds.length ≤ 5
  ok : ∀ x ∈ xs, ShpOk x
  msg : ∀ x ∈ xs, ∀ f ∈ x.flds, f.kind = 8 → 0 ≤ f.msg ∧ f.msg < xs.length
theorem SchG.sum {xs : List Shp} (h : SchG xs) (hl : xs.length ≤ 1000) : fldSum xs ≤ 1048576 := Nat.le_trans (fldSum_mul h.len) (by omega)
theorem numOk_le {n : Int} (h : numOk n = true) : 1 ≤ n ∧ n ≤ 536870911 := by
  simp only [numOk, inB, Bool.and_eq_true, decide_eq_true_eq] at h; exact h.1
theorem inB_le {x a b : Int} (h : inB x a b = true) : a ≤ x ∧ x ≤ b := by simpa [inB] using h
theorem RawGood.len5 {ids : List Int} {i : Nat} {xs : List Shp} (h : RawGood ids i 0 xs) {x : Shp} (hx : x ∈ xs) : x.flds.length ≤ 5 := by
  obtain ⟨j, hj, rfl⟩ := List.getElem_of_mem hx
  have := h.len j xs[j] (List.getElem?_eq_getElem hj)
  split at this <;> (try split at this) <;> omega
theorem RawGood.id99 {ids : List Int} {i : Nat} {xs : List Shp} (h : RawGood ids i 0 xs) (hids : ∀ k ∈ ids, 1 ≤ k ∧ k ≤ 99) {x : Shp} (hx : x ∈ xs) : 1 ≤ x.id ∧ x.id ≤ 99 := by
  refine hids x.id ?_
  rw [← h.ids_]
  exact List.mem_map_of_mem hx
theorem compS_good {ids : List Int} {i : Nat} {xs : List Shp} (h : RawGood ids i 0 xs) (hids : ∀ k ∈ ids, 1 ≤ k ∧ k ≤ 99) (hl : xs.length ≤ 1000) : SchG (compS xs) := by
  have key : ∀ y ∈ compS xs, (W64 y.id ∧ y.flds.length ≤ 5) ∧ ∀ g ∈ y.flds, g.ok ∧ (g.kind = 8 → 0 ≤ g.msg ∧ g.msg < xs.length) := by
    intro y hy
    rcases compS_mem hy with rfl | ⟨x, hx, rfl⟩
    · exact ⟨⟨w64_of (u := 0) (by omega) (by omega), by simp⟩, fun g hg => by cases hg⟩
    · have hid := h.id99 hids hx
      refine ⟨⟨w64_of (by simp only; omega) (by simp only; omega), ?_⟩, fun g hg => ?_⟩
      · rw [cflds_len]; have := h.len5 hx; simpa using this
      · rcases cflds_mem hg with hg | ⟨f, hf, rfl⟩
        · cases hg
        · have hF := (h.good x hx).2 f hf
          have h1 := numOk_le hF.num
          have h2 := inB_le hF.kind
          have hr := hF.ref
          have hrk : f.kind = 8 → rankS xs f.msg < xs.length := by
            intro h8
            rw [if_pos h8] at hr
            simp only [hasI, List.any_eq_true, beq_iff_eq] at hr
            obtain ⟨j, hj, e⟩ := hr
            rw [← h.ids_] at hj
            obtain ⟨z, hz, rfl⟩ := List.mem_map.1 hj
            rw [← e]
            exact rank_lt hz
          by_cases h8 : f.kind = 8
          · have h3 := hrk h8
            refine ⟨⟨w64_of (by simp only [cfld]; omega) (by simp only [cfld]; omega), w64_of (by simp only [cfld]; omega) (by simp only [cfld]; omega), ?_⟩, fun _ => ?_⟩
            · simp only [cfld, if_pos h8]; exact w64_of (by omega) (by omega)
            · simp only [cfld, if_pos h8]; omega
          · refine ⟨⟨w64_of (by simp only [cfld]; omega) (by simp only [cfld]; omega), w64_of (by simp only [cfld]; omega) (by simp only [cfld]; omega), ?_⟩, fun e => absurd e h8⟩
            simp only [cfld, if_neg h8]; exact w64_of (by omega) (by omega)
  refine ⟨fun x hx => (key x hx).1.2, fun x hx => ⟨(key x hx).1.1, ?_, fun f hf => ((key x hx).2 f hf).1⟩, fun x hx f hf e => ?_⟩
  · have := (key x hx).1.2; unfold maxLen; omega
  · rw [compS_len]; exact ((key x hx).2 f hf).2 e
theorem idL_ok (n : Nat) : ∀ k ∈ idL.take n, 1 ≤ k ∧ k ≤ 99 := by
  intro k hk
  have := List.mem_of_mem_take hk
  simp only [idL, List.mem_cons, List.not_mem_nil, or_false] at this
  rcases this with rfl | rfl | rfl <;> omega
theorem idL_form {n : Nat} (h1 : 1 ≤ n) (h3 : n ≤ 3) : idL.take n = [5] ∨ idL.take n = [5, 1] ∨ idL.take n = [5, 1, 99] := by
  have : n = 1 ∨ n = 2 ∨ n = 3 := by omega
  rcases this with rfl | rfl | rfl <;> simp [idL]
/-- A schema in new memory. -/
def DrawnSch (B : Nat) (w : World) (r : Ending) (w' : World) : Prop :=
  ∃ a n cap rs xs, r = .returned (.agg #[.slice a n cap]) ∧ OwnShs w' w.heap.size 43 47 (.slice a n cap) n rs xs ∧ 1 ≤ n ∧ n ≤ 3 ∧ SchG xs ∧ Up B w w'
set_option maxRecDepth 100000 in
set_option maxHeartbeats 4000000 in
theorem l8Right_any (B : Nat) (w : World) (hc : Cur w B) : Calls Try.prog 115 #[.pointer (some ⟨B, 0, none⟩)] w (DrawnSch B w) := by
  have hBl := hc.lt
  go_enter Try.func115, Try.ntmps115
  go_wp2_with fail
  refine (l6Right_any B _ (hc.below (by ((repeat (first | (with_reducible exact Below.refl _ _) | (with_reducible assumption) | (with_reducible refine Below.alloc ?_ ?_ _) | (with_reducible refine Below.setCell ?_ ?_ _) | (with_reducible refine Below.drew ?_) | (with_reducible refine below_setRow ?_ ?_ _) | (refine Below.trans ?_ (Below.mono (by assumption) ?_)))); all_goals (first | omega | (simp; done) | (simp; omega)))))).mono ?_
  rintro r w1 ⟨a, n, cap, rs, xs, i, rfl, ho, h1, h3, hg, hu⟩
  have hxl := ho.lenx
  have hv := good_first hg (idL_form h1 h3)
  have h5 : ∀ x ∈ xs, x.flds.length ≤ 5 := fun x hx => hg.len5 hx
  have hms : fldSum xs ≤ 1048576 := Nat.le_trans (fldSum_mul h5) (by omega)
  have HG := Lib.hid (compS_good hg (idL_ok n) (by omega))
  have HO := Lib.hid ho; have HV := Lib.hid hv; have HX := Lib.hid hxl; have HU := Lib.hid hu; clear ho hv hxl hu hg
  go_wp2_with fail
  refine (specCompile_ok a cap n xs w1 HO.out.shsL HX.out (by omega) (fun x hx => Nat.le_trans (h5 x hx) (by omega)) hms HV.out).mono ?_
  rintro r w2 ⟨a2, cap2, rs2, rfl, ho2, hb2⟩
  have hR2 := (hb2.block w.heap.size (by have := HU.out.oth.size; simp at this; omega)).trans ((HU.out.oth.block (b := w.heap.size) (by simp) (by omega)).trans (hset_new (o := .cells #[.slice none 0 0] 30) rfl))
  have hu2 : Up B w w2 := (((Up.refl hc).alloc hBl _).step HU.out.cur HU.out.oth).below hBl hb2 (by have := HU.out.oth.size; simp at this; omega)
  have hlR := box_lt hR2; have kR := box_cells hR2 0; have fR := box_frozen hR2
  simp only [List.getElem?_toArray, List.getElem?_cons_zero] at kR
  have HR2 := Lib.hid hR2; have HO2 := Lib.hid ho2; clear hR2 ho2
  have hz2 := hb2.size
  have hz1 := HU.out.oth.size
  simp only [World.size_alloc] at hz1
  have fin : ∀ W : World, W.heap[w.heap.size]? = some (.cells #[.slice a2 n cap2] 30 (0, 0)) → OwnShs W w.heap.size 43 47 (.slice a2 n cap2) n rs2 (compS xs) → Up B w W → ∀ (tm : Array Value), tm.getD 2 undef = .pointer (some ⟨w.heap.size, 0, none⟩) → bodyPost Try.prog Try.f115 (DrawnSch B w) .ret ⟨tm, []⟩ W := by
    intro W h1' h2 h3' tm t1
    exact bodyPost_ret (results_cell Try.results115 t1 (run_loadVar_mid W w.heap.size 0 30 [.slice a2 n cap2] _ (range_of_box h1') Try.underlying30 rfl (by kernel_rfl))) rfl ⟨_, _, _, _, _, rfl, h2, h1, h3, HG.out, h3'⟩
  go_wp2_with fail
  refine fin _ ?_ ?_ ?_ _ rfl
  · exact hset_alloc (hset_alloc (by apply hset_eq (hset_set HR2.out); simp only [List.setIfInBounds_toArray, List.set_cons_zero]))
  · exact OwnShs.le (((HO2.out.set (by simp; omega) _).alloc _).alloc _) (by omega)
  · exact ((hu2.below hBl ((Below.refl w.heap.size _).setCell (by simp) _) (Nat.le_refl _)).alloc hBl _).alloc hBl _
end Go.Proofs.Ytbgejldjgkihaaa

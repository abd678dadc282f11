/- A schema drawn: the reference's l8Right. -/
import Derived.Test.YtbgejldjgkihaaaL6R
import Derived.Test.YtbgejldjgkihaaaCmpW
import Derived.Test.YtbgejldjgkihaaaCmp
namespace Go.Proofs.Ytbgejldjgkihaaa
set_option linter.unusedSimpArgs false
set_option linter.unusedVariables false
open Go.ChangeShapes Go.WideShapes Go.ChangeAt Go.RowKit Go.BigFrame

theorem fldSum_mul {xs : List Shp} {m : Nat} (h : ∀ x ∈ xs, x.flds.length ≤ m) : fldSum xs ≤ m * xs.length := by
  induction xs with
  | nil => simp [fldSum]
  | cons x xs ih =>
    have h1 := ih fun y hy => h y (List.mem_cons_of_mem _ hy)
    have h2 := h x (List.mem_cons_self ..)
    simp only [fldSum, List.map_cons, List.sum_cons, List.length_cons, Nat.mul_succ] at h1 ⊢
    omega
theorem w64_of {u : Int} (h0 : -1000000000 ≤ u) (h1 : u ≤ 1000000000) : W64 u := by
  unfold W64; simp [Lit.wf, IntKind.min, IntKind.max, IntKind.signed, IntKind.bits]; omega
theorem putF_mem : ∀ {fs : List Fld} {f g : Fld}, g ∈ putF fs f → g = f ∨ g ∈ fs
  | [], f, g, h => by simp [putF] at h; exact .inl h
  | k :: fs, f, g, h => by
    unfold putF at h
    split at h
    · rcases List.mem_cons.1 h with rfl | h
      · exact .inr (List.mem_cons_self ..)
      · rcases putF_mem h with rfl | h
        · exact .inl rfl
        · exact .inr (List.mem_cons_of_mem _ h)
    · rcases List.mem_cons.1 h with rfl | h
      · exact .inl rfl
      · exact .inr h
theorem cflds_mem {xs : List Shp} : ∀ {fs l : List Fld} {g : Fld}, g ∈ cflds xs l fs → g ∈ l ∨ ∃ f ∈ fs, g = cfld xs f
  | [], l, g, h => .inl h
  | f :: fs, l, g, h => by
    rw [cflds] at h
    rcases cflds_mem h with h1 | ⟨f', hf, rfl⟩
    · rcases putF_mem h1 with rfl | h2
      · exact .inr ⟨f, List.mem_cons_self .., rfl⟩
      · exact .inl h2
    · exact .inr ⟨f', List.mem_cons_of_mem _ hf, rfl⟩
theorem cgo_mem {xs : List Shp} : ∀ {rest ys : List Shp} {y : Shp}, y ∈ cgo xs ys rest → y ∈ ys ∨ ∃ x ∈ rest, y = ⟨x.id, cflds xs [] x.flds⟩
  | [], ys, y, h => .inl h
  | x :: rest, ys, y, h => by
    rw [cgo] at h
    rcases cgo_mem h with h1 | ⟨x', hx, rfl⟩
    · rcases List.mem_or_eq_of_mem_set h1 with h2 | rfl
      · exact .inl h2
      · exact .inr ⟨x, List.mem_cons_self .., rfl⟩
    · exact .inr ⟨x', List.mem_cons_of_mem _ hx, rfl⟩
theorem compS_mem {xs : List Shp} {y : Shp} (h : y ∈ compS xs) : y = ⟨0, []⟩ ∨ ∃ x ∈ xs, y = ⟨x.id, cflds xs [] x.flds⟩ := by
  rcases cgo_mem h with h1 | h1
  · exact .inl (List.mem_replicate.1 h1).2
  · exact .inr h1
/-- A schema whose fields lead to its own shapes. -/
structure SchG (xs : List Shp) : Prop where
  len : ∀ x ∈ xs, x.flds.length ≤ 5
  ok : ∀ x ∈ xs, ShpOk x
  msg : ∀ x ∈ xs, ∀ f ∈ x.flds, f.kind = 8 → 0 ≤ f.msg ∧ f.msg < xs.length
theorem SchG.sum {xs : List Shp} (h : SchG xs) (hl : xs.length ≤ 1000) : fldSum xs ≤ 1048576 := Nat.le_trans (fldSum_mul h.len) (by omega)
theorem numOk_le {n : Int} (h : numOk n = true) : 1 ≤ n ∧ n ≤ 536870911 := by
  simp only [numOk, inB, Bool.and_eq_true, decide_eq_true_eq] at h; exact h.1
theorem inB_le {x a b : Int} (h : inB x a b = true) : a ≤ x ∧ x ≤ b := by simpa [inB] using h
theorem RawGood.len5 {ids : List Int} {i : Nat} {xs : List Shp} (h : RawGood ids i 0 xs) {x : Shp} (hx : x ∈ xs) : x.flds.length ≤ 5 := by
  obtain ⟨j, hj, rfl⟩ := List.getElem_of_mem hx
  have := h.len j xs[j] (List.getElem?_eq_getElem hj)
  split at this <;> (try split at this) <;> omega
theorem RawGood.id99 {ids : List Int} {i : Nat} {xs : List Shp} (h : RawGood ids i 0 xs) (hids : ∀ k ∈ ids, 1 ≤ k ∧ k ≤ 99) {x : Shp} (hx : x ∈ xs) : 1 ≤ x.id ∧ x.id ≤ 99 := by
  refine hids x.id ?_
  rw [← h.ids_]
  exact List.mem_map_of_mem hx
theorem compS_good {ids : List Int} {i : Nat} {xs : List Shp} (h : RawGood ids i 0 xs) (hids : ∀ k ∈ ids, 1 ≤ k ∧ k ≤ 99) (hl : xs.length ≤ 1000) : SchG (compS xs) := by
  have key : ∀ y ∈ compS xs, (W64 y.id ∧ y.flds.length ≤ 5) ∧ ∀ g ∈ y.flds, g.ok ∧ (g.kind = 8 → 0 ≤ g.msg ∧ g.msg < xs.length) := by
    intro y hy
    rcases compS_mem hy with rfl | ⟨x, hx, rfl⟩
    · exact ⟨⟨w64_of (u := 0) (by omega) (by omega), by simp⟩, fun g hg => by cases hg⟩
    · have hid := h.id99 hids hx
      refine ⟨⟨w64_of (by simp only; omega) (by simp only; omega), ?_⟩, fun g hg => ?_⟩
      · rw [cflds_len]; have := h.len5 hx; simpa using this
      · rcases cflds_mem hg with hg | ⟨f, hf, rfl⟩
        · cases hg
        · have hF := (h.good x hx).2 f hf
          have h1 := numOk_le hF.num
          have h2 := inB_le hF.kind
          have hr := hF.ref
          have hrk : f.kind = 8 → rankS xs f.msg < xs.length := by
            intro h8
            rw [if_pos h8] at hr
            simp only [hasI, List.any_eq_true, beq_iff_eq] at hr
            obtain ⟨j, hj, e⟩ := hr
            rw [← h.ids_] at hj
            obtain ⟨z, hz, rfl⟩ := List.mem_map.1 hj
            rw [← e]
            exact rank_lt hz
          by_cases h8 : f.kind = 8
          · have h3 := hrk h8
            refine ⟨⟨w64_of (by simp only [cfld]; omega) (by simp only [cfld]; omega), w64_of (by simp only [cfld]; omega) (by simp only [cfld]; omega), ?_⟩, fun _ => ?_⟩
            · simp only [cfld, if_pos h8]; exact w64_of (by omega) (by omega)
            · simp only [cfld, if_pos h8]; omega
          · refine ⟨⟨w64_of (by simp only [cfld]; omega) (by simp only [cfld]; omega), w64_of (by simp only [cfld]; omega) (by simp only [cfld]; omega), ?_⟩, fun e => absurd e h8⟩
            simp only [cfld, if_neg h8]; exact w64_of (by omega) (by omega)
  refine ⟨fun x hx => (key x hx).1.2, fun x hx => ⟨(key x hx).1.1, ?_, fun f hf => ((key x hx).2 f hf).1⟩, fun x hx f hf e => ?_⟩
  · have := (key x hx).1.2; unfold maxLen; omega
  · rw [compS_len]; exact ((key x hx).2 f hf).2 e
theorem idL_ok (n : Nat) : ∀ k ∈ idL.take n, 1 ≤ k ∧ k ≤ 99 := by
  intro k hk
  have := List.mem_of_mem_take hk
  simp only [idL, List.mem_cons, List.not_mem_nil, or_false] at this
  rcases this with rfl | rfl | rfl <;> omega
theorem idL_form {n : Nat} (h1 : 1 ≤ n) (h3 : n ≤ 3) : idL.take n = [5] ∨ idL.take n = [5, 1] ∨ idL.take n = [5, 1, 99] := by
  have : n = 1 ∨ n = 2 ∨ n = 3 := by omega
  rcases this with rfl | rfl | rfl <;> simp [idL]
/-- A schema in new memory. -/
def DrawnSch (B : Nat) (w : World) (r : Ending) (w' : World) : Prop :=
  ∃ a n cap rs xs, r = .returned (.agg #[.slice a n cap]) ∧ OwnShs w' w.heap.size 43 47 (.slice a n cap) n rs xs ∧ 1 ≤ n ∧ n ≤ 3 ∧ SchG xs ∧ Up B w w'
set_option maxRecDepth 100000 in
set_option maxHeartbeats 4000000 in
theorem l8Right_any (B : Nat) (w : World) (hc : Cur w B) : Calls Try.prog 115 #[.pointer (some ⟨B, 0, none⟩)] w (DrawnSch B w) := by
  have hBl := hc.lt
  go_enter Try.func115, Try.ntmps115
  go_wp2_with fail
  refine (l6Right_any B _ (hc.below (by ((repeat (first | (with_reducible exact Below.refl _ _) | (with_reducible assumption) | (with_reducible refine Below.alloc ?_ ?_ _) | (with_reducible refine Below.setCell ?_ ?_ _) | (with_reducible refine Below.drew ?_) | (with_reducible refine below_setRow ?_ ?_ _) | (refine Below.trans ?_ (Below.mono (by assumption) ?_)))); all_goals (first | omega | (simp; done) | (simp; omega)))))).mono ?_
  rintro r w1 ⟨a, n, cap, rs, xs, i, rfl, ho, h1, h3, hg, hu⟩
  have hxl := ho.lenx
  have hv := good_first hg (idL_form h1 h3)
  have h5 : ∀ x ∈ xs, x.flds.length ≤ 5 := fun x hx => hg.len5 hx
  have hms : fldSum xs ≤ 1048576 := Nat.le_trans (fldSum_mul h5) (by omega)
  have HG := Lib.hid (compS_good hg (idL_ok n) (by omega))
  have HO := Lib.hid ho; have HV := Lib.hid hv; have HX := Lib.hid hxl; have HU := Lib.hid hu; clear ho hv hxl hu hg
  go_wp2_with fail
  refine (specCompile_ok a cap n xs w1 HO.out.shsL HX.out (by omega) (fun x hx => Nat.le_trans (h5 x hx) (by omega)) hms HV.out).mono ?_
  rintro r w2 ⟨a2, cap2, rs2, rfl, ho2, hb2⟩
  have hR2 := (hb2.block w.heap.size (by have := HU.out.oth.size; simp at this; omega)).trans ((HU.out.oth.block (b := w.heap.size) (by simp) (by omega)).trans (hset_new (o := .cells #[.slice none 0 0] 30) rfl))
  have hu2 : Up B w w2 := (((Up.refl hc).alloc hBl _).step HU.out.cur HU.out.oth).below hBl hb2 (by have := HU.out.oth.size; simp at this; omega)
  have hlR := box_lt hR2; have kR := box_cells hR2 0; have fR := box_frozen hR2
  simp only [List.getElem?_toArray, List.getElem?_cons_zero] at kR
  have HR2 := Lib.hid hR2; have HO2 := Lib.hid ho2; clear hR2 ho2
  have hz2 := hb2.size
  have hz1 := HU.out.oth.size
  simp only [World.size_alloc] at hz1
  have fin : ∀ W : World, W.heap[w.heap.size]? = some (.cells #[.slice a2 n cap2] 30 (0, 0)) → OwnShs W w.heap.size 43 47 (.slice a2 n cap2) n rs2 (compS xs) → Up B w W → ∀ (tm : Array Value), tm.getD 2 undef = .pointer (some ⟨w.heap.size, 0, none⟩) → bodyPost Try.prog Try.f115 (DrawnSch B w) .ret ⟨tm, []⟩ W := by
    intro W h1' h2 h3' tm t1
    exact bodyPost_ret (results_cell Try.results115 t1 (run_loadVar_mid W w.heap.size 0 30 [.slice a2 n cap2] _ (range_of_box h1') Try.underlying30 rfl (by kernel_rfl))) rfl ⟨_, _, _, _, _, rfl, h2, h1, h3, HG.out, h3'⟩
  go_wp2_with fail
  refine fin _ ?_ ?_ ?_ _ rfl
  · exact hset_alloc (hset_alloc (by apply hset_eq (hset_set HR2.out); simp only [List.setIfInBounds_toArray, List.set_cons_zero]))
  · exact OwnShs.le (((HO2.out.set (by simp; omega) _).alloc _).alloc _) (by omega)
  · exact ((hu2.below hBl ((Below.refl w.heap.size _).setCell (by simp) _) (Nat.le_refl _)).alloc hBl _).alloc hBl _
end Go.Proofs.Ytbgejldjgkihaaa
/- A schema drawn that may be bent: the reference's l8Bent. -/
namespace Go.Proofs.Ytbgejldjgkihaaa
set_option linter.unusedSimpArgs false
set_option linter.unusedVariables false
open Go.ChangeShapes Go.WideShapes Go.ChangeAt Go.RowKit Go.BigFrame

theorem owns_setBox {w : World} {base n size S o : Nat} {t TS : TypeId} {v : Value} {L : List Value} {cs : Array Value} (h : w.ownsRow base t size v n L) (hS : w.heap[S]? = some (.cells cs TS (0, 0))) (hne : TS ≠ t) (u : Value) : (w.setCell ⟨S, o, none⟩ u).ownsRow base t size v n L := by
  refine h.kept (row := some S) ⟨rfl, rfl, rfl, by simp, fun k _ hk => heap_setCell_other w ⟨S, o, none⟩ k u (fun e => hk (by simp [e]))⟩ (.inr fun e => ?_)
  obtain ⟨c, hc⟩ := own_box h e
  rw [hS] at hc
  simp at hc
  exact hne hc.2
theorem OwnShs.setBox {w : World} {base n S o : Nat} {T TF TS : TypeId} {v : Value} {rs : List ShR} {xs : List Shp} {cs : Array Value} (h : OwnShs w base T TF v n rs xs) (hS : w.heap[S]? = some (.cells cs TS (0, 0))) (h1 : TS ≠ T) (h2 : TS ≠ TF) (u : Value) : OwnShs (w.setCell ⟨S, o, none⟩ u) base T TF v n rs xs :=
  ⟨h.len, h.lenx, owns_setBox h.outer hS h1 u, fun k r x hr hx => ⟨(h.each k r x hr hx).1, (h.each k r x hr hx).2.1, owns_setBox (h.each k r x hr hx).2.2 hS h2 u⟩, h.apart⟩
theorem Cells.oth {l : List (Addr × Value)} {w w' : World} {B : Nat} (h : Cells l w) (ho : Oth B w w') (hB : ∀ q ∈ l, q.1.block ≠ B) : Cells l w' := fun q hq => by
  have hlt := World.block_lt_of_cell? w _ (h q hq)
  exact (World.cell?_of_block (ho.block hlt (hB q hq))).trans (h q hq)
/-- A schema of some shapes. -/
structure SchB (xs : List Shp) : Prop where
  n : xs.length ≤ 7
  len : ∀ x ∈ xs, x.flds.length ≤ 6
  ok : ∀ x ∈ xs, ShpOk x
theorem SchG.bent {xs : List Shp} (h : SchG xs) (hn : xs.length ≤ 7) : SchB xs := ⟨hn, fun x hx => Nat.le_trans (h.len x hx) (by omega), h.ok⟩
theorem SchB.sum {xs : List Shp} (h : SchB xs) : fldSum xs ≤ 1048576 := Nat.le_trans (fldSum_mul h.len) (by have := h.n; omega)
theorem SchB.set {xs : List Shp} (h : SchB xs) (q : Nat) {x : Shp} (h1 : x.flds.length ≤ 6) (h2 : ShpOk x) : SchB (xs.set q x) := by
  refine ⟨by simpa using h.n, fun y hy => ?_, fun y hy => ?_⟩ <;> rcases List.mem_or_eq_of_mem_set hy with h' | rfl
  · exact h.len y h'
  · exact h1
  · exact h.ok y h'
  · exact h2
theorem SchB.push {xs : List Shp} (h : SchB xs) (hn : xs.length < 7) {i : Int} (hi : W64 i) : SchB (xs ++ [⟨i, []⟩]) := by
  refine ⟨by simp; omega, fun y hy => ?_, fun y hy => ?_⟩ <;> rcases List.mem_append.1 hy with h' | h'
  · exact h.len y h'
  · simp at h'; subst h'; simp
  · exact h.ok y h'
  · simp at h'; subst h'; exact ⟨hi, by simp, fun f hf => by cases hf⟩
def DrawnSB (B : Nat) (w : World) (r : Ending) (w' : World) : Prop :=
  ∃ a n cap rs xs, r = .returned (.agg #[.slice a n cap]) ∧ OwnShs w' w.heap.size 43 47 (.slice a n cap) n rs xs ∧ SchB xs ∧ Up B w w'
/-- The schema under way, in its box. -/
structure Mid8 (w : World) (B : Nat) (S : Nat) (a : Option Addr) (n cap : Nat) (rs : List ShR) (xs : List Shp) (wx : World) : Prop where
  own : OwnShs wx (w.heap.size + 1) 43 47 (.slice a n cap) n rs xs
  good : SchB xs
  res : wx.heap[w.heap.size]? = some (.cells #[.slice none 0 0] 30 (0, 0))
  box : wx.heap[S]? = some (.cells #[.slice a n cap] 30 (0, 0))
  up : Up B w wx
section
variable {w : World} {B S : Nat} {a : Option Addr} {n cap : Nat} {rs : List ShR} {xs : List Shp} {wx wy : World}
theorem Mid8.step (h : Mid8 w B S a n cap rs xs wx) (hB : B < w.heap.size) (hS : w.heap.size < S) (hc : Cur wy B) (ho : Oth B wx wy) : Mid8 w B S a n cap rs xs wy :=
  ⟨h.own.oth ho (by omega), h.good, (ho.block (box_lt h.res) (by omega)).trans h.res, (ho.block (box_lt h.box) (by omega)).trans h.box, h.up.step hc ho⟩
theorem Mid8.below (h : Mid8 w B S a n cap rs xs wx) (hB : B < w.heap.size) (hb : Below wx.heap.size wx wy) : Mid8 w B S a n cap rs xs wy :=
  ⟨h.own.below hb (Nat.le_refl _), h.good, (hb.block _ (box_lt h.res)).trans h.res, (hb.block _ (box_lt h.box)).trans h.box, h.up.below hB hb h.up.oth.size⟩
theorem Mid8.out {g : Nat} (h : Mid8 w B S a n cap rs xs wx) {t : TypeId} {v : Value} {L : List Value} {k sz base : Nat} (ho : wx.ownsRow base t sz v k L) (hv : v.ownBlock = some g) (ht : t ≠ 30) : g ≠ S := by
  intro e
  obtain ⟨c, hc⟩ := own_box ho hv
  rw [e, h.box] at hc
  simp at hc
  exact ht hc.2.symm
/-- A store into a row of the schema's own. -/
theorem Mid8.put {g o : Nat} {u : Value} {rs' : List ShR} {xs' : List Shp} (h : Mid8 w B S a n cap rs xs wx) (hB : B < w.heap.size) (hg : w.heap.size < g) (hgS : g ≠ S) (own' : OwnShs (wx.setCell ⟨g, o, none⟩ u) (w.heap.size + 1) 43 47 (.slice a n cap) n rs' xs') (good' : SchB xs') :
    Mid8 w B S a n cap rs' xs' (wx.setCell ⟨g, o, none⟩ u) :=
  ⟨own', good', hset_other h.res (by simp; omega), hset_other h.box (by simpa using Ne.symm hgS), h.up.below hB ((Below.refl (w.heap.size + 1) _).setCell (by simp; omega) _) (by omega)⟩
theorem Mid8.boxAt {w11 : World} (h : Mid8 w B S a n cap rs xs wx) (hg : wx.grownBy w11 (Value.slice a n cap).ownBlock) : w11.heap[S]? = some (.cells #[.slice a n cap] 30 (0, 0)) :=
  (hg.block S (box_lt h.box) (fun e => h.out h.own.outer e.symm (by decide) rfl)).trans h.box
/-- A shape more. -/
theorem Mid8.push {w11 : World} {g' capn : Nat} {i : Int} (h : Mid8 w B S a n cap rs xs wx) (hB : B < w.heap.size) (hSl : w.heap.size < S) (hn : n < 7) (hi : W64 i) (hown : w11.ownsRow (w.heap.size + 1) 43 2 (.slice (some ⟨g', 0, none⟩) (n + 1) capn) (n + 1) (rs.flatMap ShR.cs ++ [.int .i64 i, .slice none 0 0]))
    (hg : wx.grownBy w11 (Value.slice a n cap).ownBlock) :
    Mid8 w B S (some ⟨g', 0, none⟩) (n + 1) capn (rs ++ [⟨i, none, 0, 0⟩]) (xs ++ [⟨i, []⟩]) (w11.setCell ⟨S, 0, none⟩ (.slice (some ⟨g', 0, none⟩) (n + 1) capn)) := by
  have hS := h.boxAt hg
  have hz := h.up.oth.size
  have hb : Below (w.heap.size + 1) wx w11 := below_grown (Below.refl _ _) hg (fun b e => (h.own.outer.lt b e).1) (by have := box_lt h.res; omega)
  have hSR : S ≠ w.heap.size := by omega
  refine ⟨OwnShs.setBox (h.own.push (r := ⟨i, none, 0, 0⟩) (x := ⟨i, []⟩) (by decide) ⟨rfl, rfl, World.ownsRow_nil _ _ _ _⟩ (fun _ _ _ _ _ e => by simp [Value.ownBlock] at e) hown hg) hS (by decide) (by decide) _, h.good.push (by rw [h.own.lenx]; exact hn) hi, hset_other ((hb.block _ (by omega)).trans h.res) (by simpa using Ne.symm hSR), ?_, ?_⟩
  · apply hset_eq (hset_set hS); simp only [List.setIfInBounds_toArray, List.set_cons_zero]
  · exact h.up.below hB (hb.setCell (by simp; omega) _) (by omega)
end
/-- How many shapes may be put in. -/
def msr8 (S : Nat) (w : World) : Nat := match w.cell? ⟨S, 0, none⟩ with | some (.slice _ n _) => 8 - n | _ => 0
theorem Mid8.msr {w : World} {B S : Nat} {a : Option Addr} {n cap : Nat} {rs : List ShR} {xs : List Shp} {wx : World} (h : Mid8 w B S a n cap rs xs wx) : msr8 S wx = 8 - n := by
  have k : wx.cell? ⟨S, 0, none⟩ = some (.slice a n cap) := box_cells h.box 0
  unfold msr8; rw [k]
set_option maxRecDepth 100000 in
set_option maxHeartbeats 4000000 in
theorem l8Bent_any (B : Nat) (w : World) (hc : Cur w B) : Calls Try.prog 62 #[.pointer (some ⟨B, 0, none⟩)] w (DrawnSB B w) := by
  have hBl := hc.lt
  obtain ⟨iS, hiS, hs0, hs1, hs2⟩ := info_parts info_ShapeC
  obtain ⟨iF, hiF, hf0, hf1, hf2⟩ := info_parts info_Fld5
  go_enter Try.func62, Try.ntmps62
  go_wp2_with fail
  refine (l8Right_any B _ (hc.below (by ((repeat (first | (with_reducible exact Below.refl _ _) | (with_reducible assumption) | (with_reducible refine Below.alloc ?_ ?_ _) | (with_reducible refine Below.setCell ?_ ?_ _) | (with_reducible refine Below.drew ?_) | (with_reducible refine below_setRow ?_ ?_ _) | (refine Below.trans ?_ (Below.mono (by assumption) ?_)))); all_goals (first | omega | (simp; done) | (simp; omega)))))).mono ?_
  rintro r w1 ⟨a, n, cap, rs, xs, rfl, ho, h1, h3, hg, hu⟩
  have hz1 := hu.oth.size
  simp only [World.size_alloc] at hz1
  have hxl := ho.lenx
  have hM1 : Mid8 w B w1.heap.size a n cap rs xs (w1.alloc (.cells #[.slice a n cap] 30)) :=
    ⟨(ho.le (by simp)).alloc _, hg.bent (by omega), hset_alloc ((hu.oth.block (b := w.heap.size) (by simp) (by omega)).trans (hset_new (o := .cells #[.slice none 0 0] 30) rfl)), hset_new rfl, (((Up.refl hc).alloc hBl _).step hu.cur hu.oth).alloc hBl _⟩
  have HM1 := Lib.hid hM1; clear hM1 ho hu hxl
  have HG := Lib.hid hg; clear hg
  go_wp2_with fail
  refine (l1Below_any B n _ HM1.out.up.cur (by omega) (by omega)).mono ?_
  rintro r w2 ⟨x, rfl, hx0, hx1, hc2, ho2⟩
  obtain ⟨k, rfl⟩ := Int.eq_ofNat_of_zero_le hx0
  have hk : k < n := by omega
  have hM2 := HM1.out.step hBl (by omega) hc2 ho2
  go_wp2_with fail
  refine (l1Below_any B 10 _ hc2 (by omega) (by omega)).mono ?_
  rintro r w3 ⟨y, rfl, hy0, hy1, hc3, ho3⟩
  have hM3 := hM2.step hBl (by omega) hc3 ho3
  obtain ⟨S, hS⟩ : ∃ S, w1.heap.size = S := ⟨_, rfl⟩
  rw [hS] at hM3
  have hM := hM3; clear hM3 hM2 hc2 ho2 hc3 ho3 HM1
  have hSl : w.heap.size < S := by omega
  simp only [hS]
  clear hS hz1
  have fin : ∀ (W : World) (a : Option Addr) (n cap : Nat) (rs : List ShR) (xs : List Shp), Mid8 w B S a n cap rs xs W → ∀ (tm : Array Value), tm.getD 2 undef = .pointer (some ⟨w.heap.size, 0, none⟩) → bodyPost Try.prog Try.f62 (DrawnSB B w) .ret ⟨tm, []⟩ (W.setCell ⟨w.heap.size, 0, none⟩ (.slice a n cap)) := by
    intro W a n cap rs xs h tm t1
    refine bodyPost_ret (results_cell Try.results62 t1 (run_loadVar_mid _ w.heap.size 0 30 [.slice a n cap] _ (range_of_box (t := 30) ?_) Try.underlying30 rfl (by kernel_rfl))) rfl ⟨_, _, _, _, _, rfl, (h.own.set (by simp) _).le (by omega), h.good, h.up.below hBl ((Below.refl w.heap.size _).setCell (by simp) _) (Nat.le_refl _)⟩
    apply hset_eq (hset_set h.res); simp only [List.setIfInBounds_toArray, List.set_cons_zero]
  have seen : ∀ (W : World) (a : Option Addr) (n cap : Nat) (rs : List ShR) (xs : List Shp), Mid8 w B S a n cap rs xs W → W.cell? ⟨S, 0, none⟩ = some (.slice a n cap) ∧ W.cell? ⟨w.heap.size, 0, none⟩ = some (.slice none 0 0) ∧ (∀ j, W.frozen? ⟨w.heap.size, j, none⟩ = false) ∧ (∀ j, W.frozen? ⟨S, j, none⟩ = false) := fun W a n cap rs xs h => ⟨box_cells h.box 0, box_cells h.res 0, box_frozen h.res, box_frozen h.box⟩
  obtain ⟨g, cap0, e0, hg0, hgl⟩ := hM.own.outer.form (by omega)
  simp only [Value.slice.injEq, true_and] at e0
  obtain ⟨rfl, rfl⟩ := e0
  obtain ⟨⟨rid, ra, rn, rcap⟩, hr, hrm⟩ := at_lt (xs := rs) (k := k) (by rw [hM.own.len]; exact hk)
  obtain ⟨x0, hx, hxm⟩ := at_lt (xs := xs) (k := k) (by rw [hM.own.lenx]; exact hk)
  obtain ⟨hrid, hrn, hrow⟩ := hM.own.each k _ x0 hr hx
  simp only at hrid hrn hrow
  have c0 : w3.cell? ⟨g, k * 2, none⟩ = some (.int .i64 rid) := by
    exact own_at hM.own.outer (by rw [show k * 2 = k * 2 + 0 by rfl, flatMap_at shR_len rs k 0 _ hr (by omega)]; rfl)
  have c1 : w3.cell? ⟨g, k * 2 + 1, none⟩ = some (.slice ra rn rcap) := by
    exact own_at hM.own.outer (by rw [flatMap_at shR_len rs k 1 _ hr (by omega)]; rfl)
  have hfz : ∀ j, w3.frozen? ⟨g, j, none⟩ = false := hM.own.outer.frozenAt
  have hgS : g ≠ S := hM.out hM.own.outer rfl (by decide)
  have hgB : g ≠ B := by omega
  have hSB : S ≠ B := by omega
  have hx5 : x0.flds.length ≤ 5 := HG.out.len x0 hxm
  have hxo : ShpOk x0 := HG.out.ok x0 hxm
  have HXO := Lib.hid hxo; clear hxo
  have HR := Lib.hid hr; have HX := Lib.hid hx; have HW := Lib.hid hrow; clear hr hx hrow hrm hxm hrid
  have HN := Lib.hid hrn; clear hrn
  obtain ⟨kS, kR, fR, fS⟩ := seen _ _ _ _ _ _ hM
  have HM := Lib.hid hM; clear hM
  have hkn : (k : Int) < (n : Int) := by omega
  rcases (show y = 0 ∨ y = 1 ∨ y = 2 ∨ y = 3 ∨ y = 4 ∨ 5 ≤ y by omega) with rfl | rfl | rfl | rfl | rfl | h5
  · go_upto_region 5 with fail
    refine wp_region_till (Cells [(⟨S, 0, none⟩, .slice (some ⟨g, 0, none⟩) n cap)]) (fun i => decide (8 ≤ i)) (by kernel_rfl) ?_
    have hS : Cells [(⟨S, 0, none⟩, .slice (some ⟨g, 0, none⟩) n cap)] w3.drew := cells_mk kS (cells_no _)
    refine wpTill_take (i := 0) (v := ?v0_1) rfl (by kernel_rfl) (by kernel_rfl) (by kernel_rfl) (by kernel_rfl) (fun _ _ _ h => h) (Or.inl ⟨by rfl, ?y0_1⟩) hS ?r0_1
    case y0_1 => (intro wq hq; (try simp only [cells_cons, cells_nil, and_true] at hq); first | (go_simp; done) | (go_simp; with_reducible rfl) | (obtain ⟨hq1, hq2⟩ := hq; go_simp; with_reducible rfl))
    try simp only [List.getElem_toArray, List.getElem_cons_succ, List.getElem_cons_zero, Act.put, List.setIfInBounds_toArray, List.set_cons_zero, List.set_cons_succ]
    refine wpTill_take (i := 1) (v := ?v1_2) rfl (by kernel_rfl) (by kernel_rfl) (by kernel_rfl) (by kernel_rfl) (fun _ _ _ h => h) (Or.inl ⟨by rfl, ?y1_2⟩) hS ?r1_2
    case y1_2 => (intro wq hq; (try simp only [cells_cons, cells_nil, and_true] at hq); first | (go_simp; done) | (go_simp; with_reducible rfl) | (obtain ⟨hq1, hq2⟩ := hq; go_simp; with_reducible rfl))
    try simp only [List.getElem_toArray, List.getElem_cons_succ, List.getElem_cons_zero, Act.put, List.setIfInBounds_toArray, List.set_cons_zero, List.set_cons_succ]
    refine wpTill_take (i := 2) (v := ?v2_3) rfl (by kernel_rfl) (by kernel_rfl) (by kernel_rfl) (by kernel_rfl) (fun _ _ _ h => h) (Or.inl ⟨by rfl, ?y2_3⟩) hS ?r2_3
    case y2_3 => (intro wq hq; (try simp only [cells_cons, cells_nil, and_true] at hq); first | (go_simp; done) | (go_simp; with_reducible rfl) | (obtain ⟨hq1, hq2⟩ := hq; go_simp; with_reducible rfl))
    try simp only [List.getElem_toArray, List.getElem_cons_succ, List.getElem_cons_zero, Act.put, List.setIfInBounds_toArray, List.set_cons_zero, List.set_cons_succ]
    refine wpTill_take (i := 3) (v := ?v3_4) rfl (by kernel_rfl) (by kernel_rfl) (by kernel_rfl) (by kernel_rfl) (fun _ _ _ h => h) (Or.inl ⟨by rfl, ?y3_4⟩) hS ?r3_4
    case y3_4 => (intro wq hq; (try simp only [cells_cons, cells_nil, and_true] at hq); first | (go_simp; done) | (go_simp; with_reducible rfl) | (obtain ⟨hq1, hq2⟩ := hq; go_simp; with_reducible rfl))
    try simp only [List.getElem_toArray, List.getElem_cons_succ, List.getElem_cons_zero, Act.put, List.setIfInBounds_toArray, List.set_cons_zero, List.set_cons_succ]
    refine wpTill_op (i := 4) (by kernel_rfl) rfl (fun K hK => ?_)
    go_simp
    refine hK.out _ _ (fun _ => (hS.alloc _).drew) ?_
    clear hK K
    try simp only [List.getElem_toArray, List.getElem_cons_succ, List.getElem_cons_zero, Act.put, List.setIfInBounds_toArray, List.set_cons_zero, List.set_cons_succ]
    have hMa := HM.out.below (wy := (w3.alloc (.cells #[.int .i64 0, .int .i64 5, .int .i64 100, .int .i64 (-1)] 3)).drew) hBl ((Below.refl _ _).alloc (Nat.le_refl _) _).drew
    refine wpTill_op (i := 5) (by kernel_rfl) rfl (fun K hK => ?_)
    go_simp
    refine (l1PickInt_in B w3.heap.size 4 [0, 5, 100, -1] 3 _ hMa.up.cur (by have := box_lt HM.out.box; omega) (hset_drew (hset_new rfl)) (by decide) (by decide)).mono ?_
    rintro r w5 ⟨i, rfl, him, hc5, ho5⟩
    have hiw : W64 i := by
      simp only [List.mem_cons, List.not_mem_nil, or_false] at him
      rcases him with rfl | rfl | rfl | rfl <;> exact w64_lim (by omega) (by omega)
    have hM5 := hMa.step hBl hSl hc5 ho5
    have hS5 : Cells [(⟨S, 0, none⟩, .slice (some ⟨g, 0, none⟩) n cap)] w5 := cells_mk (box_cells hM5.box 0) (cells_no _)
    have c05 : w5.cell? ⟨g, k * 2, none⟩ = some (.int .i64 rid) := by
      exact own_at hM5.own.outer (by rw [show k * 2 = k * 2 + 0 by rfl, flatMap_at shR_len rs k 0 _ HR.out (by omega)]; rfl)
    have hfz5 : ∀ j, w5.frozen? ⟨g, j, none⟩ = false := hM5.own.outer.frozenAt
    have HM5 := Lib.hid hM5; have HI := Lib.hid hiw; clear hM5 hiw him hc5 ho5 hMa c0 c1 hfz
    refine hK.out _ _ (fun _ => hS5) ?_
    clear hK K hS
    try simp only [List.getElem_toArray, List.getElem_cons_succ, List.getElem_cons_zero, Act.put, List.setIfInBounds_toArray, List.set_cons_zero, List.set_cons_succ]
    refine wpTill_op (i := 6) (by kernel_rfl) rfl (fun K hK => ?_)
    go_simp
    refine hK.out _ _ (fun _ => hS5) ?_
    clear hK K
    try simp only [List.getElem_toArray, List.getElem_cons_succ, List.getElem_cons_zero, Act.put, List.setIfInBounds_toArray, List.set_cons_zero, List.set_cons_succ]
    refine wpTill_op (i := 7) (by kernel_rfl) rfl (fun K hK => ?_)
    go_simp
    refine hK.out _ _ (fun _ => hS5) ?_
    clear hK K
    try simp only [List.getElem_toArray, List.getElem_cons_succ, List.getElem_cons_zero, Act.put, List.setIfInBounds_toArray, List.set_cons_zero, List.set_cons_succ]
    refine wpTill_op (i := 8) (by kernel_rfl) rfl (fun K hK => ?_)
    go_simp
    refine hK.out _ _ (fun e => by cases e) ?_
    clear hK K
    refine wpTill_done (by kernel_rfl) ?_ _
    have hMF := HM5.out.put (o := k * 2) (u := .int .i64 i) hBl (by omega) hgS (HM5.out.own.setId (by decide) HR.out HX.out i) (HM5.out.good.set k (by show x0.flds.length ≤ 6; omega) ⟨HI.out, HXO.out.n, HXO.out.flds⟩)
    obtain ⟨kS', kR', fR', fS'⟩ := seen _ _ _ _ _ _ hMF
    have HMF := Lib.hid hMF; clear hMF hS5 c05 hfz5 kS kR fR fS
    go_wp2_with fail
    exact fin _ _ _ _ _ _ HMF.out _ rfl
  · go_upto_region 7 with fail
    refine wp_region_till (Cells [(⟨S, 0, none⟩, .slice (some ⟨g, 0, none⟩) n cap), (⟨g, k * 2 + 1, none⟩, .slice ra rn rcap)]) (fun i => decide (21 ≤ i)) (by kernel_rfl) ?_
    have hS : Cells [(⟨S, 0, none⟩, .slice (some ⟨g, 0, none⟩) n cap), (⟨g, k * 2 + 1, none⟩, .slice ra rn rcap)] w3.drew := cells_mk kS (cells_mk c1 (cells_no _))
    have hrb : ∀ b, (Value.slice ra rn rcap).ownBlock = some b → w.heap.size < b := fun b e => by have := (HW.out.lt b e).1; omega
    have hMd := HM.out.below (wy := w3.drew) hBl (Below.refl _ _).drew
    have HMd := Lib.hid hMd; clear hMd c0 c1 hfz
    refine wpTill_take (i := 0) (v := ?v0_5) rfl (by kernel_rfl) (by kernel_rfl) (by kernel_rfl) (by kernel_rfl) (fun _ _ _ h => h) (Or.inl ⟨by rfl, ?y0_5⟩) hS ?r0_5
    case y0_5 => (intro wq hq; (try simp only [cells_cons, cells_nil, and_true] at hq); first | (go_simp; done) | (go_simp; with_reducible rfl) | (obtain ⟨hq1, hq2⟩ := hq; go_simp; with_reducible rfl))
    try simp only [List.getElem_toArray, List.getElem_cons_succ, List.getElem_cons_zero, Act.put, List.setIfInBounds_toArray, List.set_cons_zero, List.set_cons_succ]
    refine wpTill_take (i := 1) (v := ?v1_6) rfl (by kernel_rfl) (by kernel_rfl) (by kernel_rfl) (by kernel_rfl) (fun _ _ _ h => h) (Or.inl ⟨by rfl, ?y1_6⟩) hS ?r1_6
    case y1_6 => (intro wq hq; (try simp only [cells_cons, cells_nil, and_true] at hq); first | (go_simp; done) | (go_simp; with_reducible rfl) | (obtain ⟨hq1, hq2⟩ := hq; go_simp; with_reducible rfl))
    try simp only [List.getElem_toArray, List.getElem_cons_succ, List.getElem_cons_zero, Act.put, List.setIfInBounds_toArray, List.set_cons_zero, List.set_cons_succ]
    refine wpTill_take (i := 2) (v := ?v2_7) rfl (by kernel_rfl) (by kernel_rfl) (by kernel_rfl) (by kernel_rfl) (fun _ _ _ h => h) (Or.inl ⟨by rfl, ?y2_7⟩) hS ?r2_7
    case y2_7 => (intro wq hq; (try simp only [cells_cons, cells_nil, and_true] at hq); first | (go_simp; done) | (go_simp; with_reducible rfl) | (obtain ⟨hq1, hq2⟩ := hq; go_simp; with_reducible rfl))
    try simp only [List.getElem_toArray, List.getElem_cons_succ, List.getElem_cons_zero, Act.put, List.setIfInBounds_toArray, List.set_cons_zero, List.set_cons_succ]
    refine wpTill_take (i := 3) (v := ?v3_8) rfl (by kernel_rfl) (by kernel_rfl) (by kernel_rfl) (by kernel_rfl) (fun _ _ _ h => h) (Or.inl ⟨by rfl, ?y3_8⟩) hS ?r3_8
    case y3_8 => (intro wq hq; (try simp only [cells_cons, cells_nil, and_true] at hq); first | (go_simp; done) | (go_simp; with_reducible rfl) | (obtain ⟨hq1, hq2⟩ := hq; go_simp; with_reducible rfl))
    try simp only [List.getElem_toArray, List.getElem_cons_succ, List.getElem_cons_zero, Act.put, List.setIfInBounds_toArray, List.set_cons_zero, List.set_cons_succ]
    refine wpTill_take (i := 4) (v := ?v4_9) rfl (by kernel_rfl) (by kernel_rfl) (by kernel_rfl) (by kernel_rfl) (fun _ _ _ h => h) (Or.inl ⟨by rfl, ?y4_9⟩) hS ?r4_9
    case y4_9 => (intro wq hq; (try simp only [cells_cons, cells_nil, and_true] at hq); first | (go_simp; done) | (go_simp; with_reducible rfl) | (obtain ⟨hq1, hq2⟩ := hq; go_simp; with_reducible rfl))
    try simp only [List.getElem_toArray, List.getElem_cons_succ, List.getElem_cons_zero, Act.put, List.setIfInBounds_toArray, List.set_cons_zero, List.set_cons_succ]
    refine wpTill_take (i := 5) (v := ?v5_10) rfl (by kernel_rfl) (by kernel_rfl) (by kernel_rfl) (by kernel_rfl) (fun _ _ _ h => h) (Or.inl ⟨by rfl, ?y5_10⟩) hS ?r5_10
    case y5_10 => (intro wq hq; (try simp only [cells_cons, cells_nil, and_true] at hq); first | (go_simp; done) | (go_simp; with_reducible rfl) | (obtain ⟨hq1, hq2⟩ := hq; go_simp; with_reducible rfl))
    try simp only [List.getElem_toArray, List.getElem_cons_succ, List.getElem_cons_zero, Act.put, List.setIfInBounds_toArray, List.set_cons_zero, List.set_cons_succ]
    refine wpTill_take (i := 6) (v := ?v6_11) rfl (by kernel_rfl) (by kernel_rfl) (by kernel_rfl) (by kernel_rfl) (fun _ _ _ h => h) (Or.inl ⟨by rfl, ?y6_11⟩) hS ?r6_11
    case y6_11 => (intro wq hq; (try simp only [cells_cons, cells_nil, and_true] at hq); first | (go_simp; done) | (go_simp; with_reducible rfl) | (obtain ⟨hq1, hq2⟩ := hq; go_simp; with_reducible rfl))
    try simp only [List.getElem_toArray, List.getElem_cons_succ, List.getElem_cons_zero, Act.put, List.setIfInBounds_toArray, List.set_cons_zero, List.set_cons_succ]
    refine wpTill_take (i := 7) (v := ?v7_12) rfl (by kernel_rfl) (by kernel_rfl) (by kernel_rfl) (by kernel_rfl) (fun _ _ _ h => h) (Or.inl ⟨by rfl, ?y7_12⟩) hS ?r7_12
    case y7_12 => (intro wq hq; (try simp only [cells_cons, cells_nil, and_true] at hq); first | (go_simp; done) | (go_simp; with_reducible rfl) | (obtain ⟨hq1, hq2⟩ := hq; go_simp; with_reducible rfl))
    try simp only [List.getElem_toArray, List.getElem_cons_succ, List.getElem_cons_zero, Act.put, List.setIfInBounds_toArray, List.set_cons_zero, List.set_cons_succ]
    refine wpTill_take (i := 8) (v := ?v8_13) rfl (by kernel_rfl) (by kernel_rfl) (by kernel_rfl) (by kernel_rfl) (fun _ _ _ h => h) (Or.inl ⟨by rfl, ?y8_13⟩) hS ?r8_13
    case y8_13 => (intro wq hq; (try simp only [cells_cons, cells_nil, and_true] at hq); first | (go_simp; done) | (go_simp; with_reducible rfl) | (obtain ⟨hq1, hq2⟩ := hq; go_simp; with_reducible rfl))
    try simp only [List.getElem_toArray, List.getElem_cons_succ, List.getElem_cons_zero, Act.put, List.setIfInBounds_toArray, List.set_cons_zero, List.set_cons_succ]
    refine wpTill_take (i := 9) (v := ?v9_14) rfl (by kernel_rfl) (by kernel_rfl) (by kernel_rfl) (by kernel_rfl) (fun _ _ _ h => h) (Or.inl ⟨by rfl, ?y9_14⟩) hS ?r9_14
    case y9_14 => (intro wq hq; (try simp only [cells_cons, cells_nil, and_true] at hq); first | (go_simp; done) | (go_simp; with_reducible rfl) | (obtain ⟨hq1, hq2⟩ := hq; go_simp; with_reducible rfl))
    try simp only [List.getElem_toArray, List.getElem_cons_succ, List.getElem_cons_zero, Act.put, List.setIfInBounds_toArray, List.set_cons_zero, List.set_cons_succ]
    refine wpTill_take (i := 11) (v := ?v11_15) rfl (by kernel_rfl) (by kernel_rfl) (by kernel_rfl) (by kernel_rfl) (fun _ _ _ h => h) (Or.inl ⟨by rfl, ?y11_15⟩) hS ?r11_15
    case y11_15 => (intro wq hq; (try simp only [cells_cons, cells_nil, and_true] at hq); first | (go_simp; done) | (go_simp; with_reducible rfl) | (obtain ⟨hq1, hq2⟩ := hq; go_simp; with_reducible rfl))
    try simp only [List.getElem_toArray, List.getElem_cons_succ, List.getElem_cons_zero, Act.put, List.setIfInBounds_toArray, List.set_cons_zero, List.set_cons_succ]
    refine wpTill_take (i := 13) (v := ?v13_16) rfl (by kernel_rfl) (by kernel_rfl) (by kernel_rfl) (by kernel_rfl) (fun _ _ _ h => h) (Or.inl ⟨by rfl, ?y13_16⟩) hS ?r13_16
    case y13_16 => (intro wq hq; (try simp only [cells_cons, cells_nil, and_true] at hq); first | (go_simp; done) | (go_simp; with_reducible rfl) | (obtain ⟨hq1, hq2⟩ := hq; go_simp; with_reducible rfl))
    try simp only [List.getElem_toArray, List.getElem_cons_succ, List.getElem_cons_zero, Act.put, List.setIfInBounds_toArray, List.set_cons_zero, List.set_cons_succ]
    refine wpTill_op (i := 10) (by kernel_rfl) rfl (fun K hK => ?_)
    go_simp
    refine (l4Number_w B _ HMd.out.up.cur).mono ?_
    rintro r v1 ⟨i1, rfl, hi1, hd1, hp1⟩
    have HM1 := Lib.hid (HMd.out.step hBl hSl hd1 hp1)
    have hS1 := hS.oth hp1 (by intro q hq; simp only [List.mem_cons, List.not_mem_nil, or_false] at hq; rcases hq with rfl | rfl <;> first | exact hSB | exact hgB)
    have HI1 := Lib.hid hi1; clear hi1 hd1 hp1 hS
    refine hK.out _ _ (fun _ => hS1) ?_
    clear hK K HMd
    try simp only [List.getElem_toArray, List.getElem_cons_succ, List.getElem_cons_zero, Act.put, List.setIfInBounds_toArray, List.set_cons_zero, List.set_cons_succ]
    refine wpTill_op (i := 12) (by kernel_rfl) rfl (fun K hK => ?_)
    go_simp
    refine (l1Below_any B 10 _ HM1.out.up.cur (by omega) (by omega)).mono ?_
    rintro r v2 ⟨i2, rfl, hi20, hi21, hd2, hp2⟩
    have HM2 := Lib.hid (HM1.out.step hBl hSl hd2 hp2)
    have hS2 := hS1.oth hp2 (by intro q hq; simp only [List.mem_cons, List.not_mem_nil, or_false] at hq; rcases hq with rfl | rfl <;> first | exact hSB | exact hgB)
    clear hd2 hp2 hS1
    refine hK.out _ _ (fun _ => hS2) ?_
    clear hK K HM1
    try simp only [List.getElem_toArray, List.getElem_cons_succ, List.getElem_cons_zero, Act.put, List.setIfInBounds_toArray, List.set_cons_zero, List.set_cons_succ]
    refine wpTill_op (i := 14) (by kernel_rfl) rfl (fun K hK => ?_)
    go_simp
    refine (l1Below_any B 4 _ HM2.out.up.cur (by omega) (by omega)).mono ?_
    rintro r v3 ⟨i3, rfl, hi30, hi31, hd3, hp3⟩
    have HM3 := Lib.hid (HM2.out.step hBl hSl hd3 hp3)
    have hS3 := hS2.oth hp3 (by intro q hq; simp only [List.mem_cons, List.not_mem_nil, or_false] at hq; rcases hq with rfl | rfl <;> first | exact hSB | exact hgB)
    clear hd3 hp3 hS2
    refine hK.out _ _ (fun _ => hS3) ?_
    clear hK K HM2
    try simp only [List.getElem_toArray, List.getElem_cons_succ, List.getElem_cons_zero, Act.put, List.setIfInBounds_toArray, List.set_cons_zero, List.set_cons_succ]
    have HW3 := Lib.hid ((HM3.out.own.each k _ x0 HR.out HX.out).2.2)
    have hw3 : IntKind.i64.wrap (i3 - 1) = i3 - 1 := by rw [IntKind.wrap_i64]; omega
    refine wpTill_op (i := 15) (by kernel_rfl) rfl (fun K hK => ?_)
    go_simp
    clear hw3
    refine hK.out _ _ (fun _ => hS3) ?_
    clear hK K
    try simp only [List.getElem_toArray, List.getElem_cons_succ, List.getElem_cons_zero, Act.put, List.setIfInBounds_toArray, List.set_cons_zero, List.set_cons_succ]
    refine wpTill_op (i := 16) (by kernel_rfl) rfl (fun K hK => ?_)
    go_simp
    refine hK.out _ _ (fun _ => hS3) ?_
    clear hK K
    try simp only [List.getElem_toArray, List.getElem_cons_succ, List.getElem_cons_zero, Act.put, List.setIfInBounds_toArray, List.set_cons_zero, List.set_cons_succ]
    refine wpTill_op (i := 17) (by kernel_rfl) rfl (fun K hK => ?_)
    go_simp
    refine hK.out _ _ (fun _ => hS3.alloc _) ?_
    clear hK K
    try simp only [List.getElem_toArray, List.getElem_cons_succ, List.getElem_cons_zero, Act.put, List.setIfInBounds_toArray, List.set_cons_zero, List.set_cons_succ]
    have hW : Below v3.heap.size v3 (v3.alloc (.cells #[.int .i64 i1, .int .i64 i2, .bool false, .bool false, .int .i64 (i3 - 1)] 47)) := (Below.refl _ _).alloc (Nat.le_refl _) _
    obtain ⟨W, hWe⟩ : ∃ W : World, W = v3.alloc (.cells #[.int .i64 i1, .int .i64 i2, .bool false, .bool false, .int .i64 (i3 - 1)] 47) := ⟨_, rfl⟩
    have hSW : Cells [(⟨S, 0, none⟩, .slice (some ⟨g, 0, none⟩) n cap), (⟨g, k * 2 + 1, none⟩, .slice ra rn rcap)] W := by rw [hWe]; exact hS3.alloc _
    have HNW := Lib.hid (World.news_of_block (w := W) (cs := #[.int .i64 i1, .int .i64 i2, .bool false, .bool false, .int .i64 (i3 - 1)]) (t := 47) (fr := (0, 0)) (B := v3.heap.size) (by rw [hWe]; exact hset_new rfl))
    rw [← hWe] at hW
    have HMW := Lib.hid (HM3.out.below hBl hW)
    have HOW := Lib.hid ((HMW.out.own.each k _ x0 HR.out HX.out).2.2)
    have hgW : ∀ b, (Value.slice ra rn rcap).ownBlock = some b → b ≠ g := fun b e e' => HMW.out.own.outerNe (by decide) HR.out HX.out e (by rw [e']; rfl)
    have hSW' : ∀ b, (Value.slice ra rn rcap).ownBlock = some b → b ≠ S := fun b e => HMW.out.out HOW.out e (by decide)
    clear hS3 hW HM3 HW3
    refine wpTill_op (i := 18) (by kernel_rfl) rfl (fun K hK => ?_)
    rw [← hWe]
    refine step_append_lies W rfl _ _ 41 rfl (w.heap.size + 1) 47 iF _ 5 32 Try.underlying41 hiF hf0 hf1 hf2 rfl (by decide) (.slice ra rn rcap) rn (x0.flds.flatMap Fld.cs) rfl HOW.out ⟨v3.heap.size, 0, none⟩ 1 1 [.int .i64 i1, .int .i64 i2, .bool false, .bool false, .int .i64 (i3 - 1)] rfl rfl HNW.out (by simp [Value.oneCell']) (by omega) (by have := HN.out; unfold maxLen; omega) (by have := HN.out; omega) (by have := box_lt HMW.out.res; omega) _ rfl ?_
    intro gn capn w11 hown11 hgr11 hat11 hlt11
    have hS11 := hSW.grown hgr11 (by intro q hq e; simp only [List.mem_cons, List.not_mem_nil, or_false] at hq; rcases hq with rfl | rfl <;> first | exact hSW' _ e rfl | exact hgW _ e rfl)
    refine hK.out _ _ (fun _ => hS11) ?_
    clear hK K hSW
    try simp only [List.getElem_toArray, List.getElem_cons_succ, List.getElem_cons_zero, Act.put, List.setIfInBounds_toArray, List.set_cons_zero, List.set_cons_succ]
    have hO11 := HMW.out.own.outerKept (by decide) HR.out HX.out hgr11
    have hfz : ∀ j, w11.frozen? ⟨g, j, none⟩ = false := hO11.frozenAt
    have hrowc : w11.cell? ⟨g, k * 2 + 1, none⟩ = some (.slice ra rn rcap) := hS11 (⟨g, k * 2 + 1, none⟩, _) (by simp)
    clear hO11
    refine wpTill_op (i := 19) (by kernel_rfl) rfl (fun K hK => ?_)
    go_simp
    refine hK.out _ _ (fun _ => hS11) ?_
    clear hK K
    try simp only [List.getElem_toArray, List.getElem_cons_succ, List.getElem_cons_zero, Act.put, List.setIfInBounds_toArray, List.set_cons_zero, List.set_cons_succ]
    refine wpTill_op (i := 20) (by kernel_rfl) rfl (fun K hK => ?_)
    go_simp
    refine hK.out _ _ (fun _ => hS11) ?_
    clear hK K
    try simp only [List.getElem_toArray, List.getElem_cons_succ, List.getElem_cons_zero, Act.put, List.setIfInBounds_toArray, List.set_cons_zero, List.set_cons_succ]
    refine wpTill_op (i := 21) (by kernel_rfl) rfl (fun K hK => ?_)
    go_simp
    refine hK.out _ _ (fun e => by cases e) ?_
    clear hK K
    refine wpTill_done (by kernel_rfl) ?_ _
    have hOF := HMW.out.own.growAt (by decide) HR.out HX.out hgr11 (a' := some ⟨gn, 0, none⟩) (m' := rn + 1) (cap' := capn) (fs := x0.flds ++ [⟨i1, i2, false, false, i3 - 1⟩]) (by simp [HN.out]) (by simpa [List.flatMap_append, Fld.cs] using hown11) (fun b e => by have e' : gn = b := Option.some.inj e; subst e'; exact hat11.imp id (fun e => Nat.le_of_eq e.symm))
    have hbF : Below (w.heap.size + 1) W (w11.setCell ⟨g, k * 2 + 1, none⟩ (.slice (some ⟨gn, 0, none⟩) (rn + 1) capn)) := (below_grown (Below.refl _ _) hgr11 (fun b e => by have := hrb b e; omega) (by have := box_lt HMW.out.res; omega)).setCell (by simp; omega) _
    have hMF : Mid8 w B S (some ⟨g, 0, none⟩) n cap _ _ (w11.setCell ⟨g, k * 2 + 1, none⟩ (.slice (some ⟨gn, 0, none⟩) (rn + 1) capn)) := ⟨hOF, HMW.out.good.set k (by simp; omega) ⟨HXO.out.id, by simp; unfold maxLen; omega, fun f hf => by
        rcases List.mem_append.1 hf with hf | hf
        · exact HXO.out.flds f hf
        · simp at hf; subst hf; exact ⟨HI1.out, w64_of (by simp only; omega) (by simp only; omega), w64_of (by simp only; omega) (by simp only; omega)⟩⟩,
      (hbF.block _ (by omega)).trans HMW.out.res, hset_other ((hgr11.block S (box_lt HMW.out.box) (fun e => hSW' S e.symm rfl)).trans HMW.out.box) (by simpa using Ne.symm hgS), HMW.out.up.below hBl hbF (by omega)⟩
    obtain ⟨kS', kR', fR', fS'⟩ := seen _ _ _ _ _ _ hMF
    have HMF := Lib.hid hMF; clear hMF hS11 hrowc hfz kS kR fR fS hOF hbF hown11 hgr11
    go_wp2_with fail
    exact fin _ _ _ _ _ _ HMF.out _ rfl
  · have hrn0 : rn = 0 ∨ 0 < rn := by omega
    rcases hrn0 with rfl | h0
    · go_wp2_with fail
      exact fin _ _ _ _ _ _ HM.out _ rfl
    · obtain ⟨rb, cap1, e1, hrb, hrbl⟩ := HW.out.form h0
      simp only [Value.slice.injEq, true_and] at e1
      obtain ⟨rfl, rfl⟩ := e1
      have hn0 : (0 : Int) < (rn : Int) := by omega
      go_upto_region 10 with fail
      refine wp_region_till (Cells [(⟨S, 0, none⟩, .slice (some ⟨g, 0, none⟩) n cap), (⟨g, k * 2 + 1, none⟩, .slice (some ⟨rb, 0, none⟩) rn rcap)]) (fun i => decide (11 ≤ i)) (by kernel_rfl) ?_
      have hS : Cells [(⟨S, 0, none⟩, .slice (some ⟨g, 0, none⟩) n cap), (⟨g, k * 2 + 1, none⟩, .slice (some ⟨rb, 0, none⟩) rn rcap)] w3.drew := cells_mk kS (cells_mk c1 (cells_no _))
      have HMd := Lib.hid (HM.out.below (wy := w3.drew) hBl (Below.refl _ _).drew)
      clear c0 c1 hfz
      refine wpTill_take (i := 0) (v := ?v0_17) rfl (by kernel_rfl) (by kernel_rfl) (by kernel_rfl) (by kernel_rfl) (fun _ _ _ h => h) (Or.inl ⟨by rfl, ?y0_17⟩) hS ?r0_17
      case y0_17 => (intro wq hq; (try simp only [cells_cons, cells_nil, and_true] at hq); first | (go_simp; done) | (go_simp; with_reducible rfl) | (obtain ⟨hq1, hq2⟩ := hq; go_simp; with_reducible rfl))
      try simp only [List.getElem_toArray, List.getElem_cons_succ, List.getElem_cons_zero, Act.put, List.setIfInBounds_toArray, List.set_cons_zero, List.set_cons_succ]
      refine wpTill_take (i := 1) (v := ?v1_18) rfl (by kernel_rfl) (by kernel_rfl) (by kernel_rfl) (by kernel_rfl) (fun _ _ _ h => h) (Or.inl ⟨by rfl, ?y1_18⟩) hS ?r1_18
      case y1_18 => (intro wq hq; (try simp only [cells_cons, cells_nil, and_true] at hq); first | (go_simp; done) | (go_simp; with_reducible rfl) | (obtain ⟨hq1, hq2⟩ := hq; go_simp; with_reducible rfl))
      try simp only [List.getElem_toArray, List.getElem_cons_succ, List.getElem_cons_zero, Act.put, List.setIfInBounds_toArray, List.set_cons_zero, List.set_cons_succ]
      refine wpTill_take (i := 2) (v := ?v2_19) rfl (by kernel_rfl) (by kernel_rfl) (by kernel_rfl) (by kernel_rfl) (fun _ _ _ h => h) (Or.inl ⟨by rfl, ?y2_19⟩) hS ?r2_19
      case y2_19 => (intro wq hq; (try simp only [cells_cons, cells_nil, and_true] at hq); first | (go_simp; done) | (go_simp; with_reducible rfl) | (obtain ⟨hq1, hq2⟩ := hq; go_simp; with_reducible rfl))
      try simp only [List.getElem_toArray, List.getElem_cons_succ, List.getElem_cons_zero, Act.put, List.setIfInBounds_toArray, List.set_cons_zero, List.set_cons_succ]
      refine wpTill_take (i := 3) (v := ?v3_20) rfl (by kernel_rfl) (by kernel_rfl) (by kernel_rfl) (by kernel_rfl) (fun _ _ _ h => h) (Or.inl ⟨by rfl, ?y3_20⟩) hS ?r3_20
      case y3_20 => (intro wq hq; (try simp only [cells_cons, cells_nil, and_true] at hq); first | (go_simp; done) | (go_simp; with_reducible rfl) | (obtain ⟨hq1, hq2⟩ := hq; go_simp; with_reducible rfl))
      try simp only [List.getElem_toArray, List.getElem_cons_succ, List.getElem_cons_zero, Act.put, List.setIfInBounds_toArray, List.set_cons_zero, List.set_cons_succ]
      refine wpTill_take (i := 4) (v := ?v4_21) rfl (by kernel_rfl) (by kernel_rfl) (by kernel_rfl) (by kernel_rfl) (fun _ _ _ h => h) (Or.inl ⟨by rfl, ?y4_21⟩) hS ?r4_21
      case y4_21 => (intro wq hq; (try simp only [cells_cons, cells_nil, and_true] at hq); first | (go_simp; done) | (go_simp; with_reducible rfl) | (obtain ⟨hq1, hq2⟩ := hq; go_simp; with_reducible rfl))
      try simp only [List.getElem_toArray, List.getElem_cons_succ, List.getElem_cons_zero, Act.put, List.setIfInBounds_toArray, List.set_cons_zero, List.set_cons_succ]
      refine wpTill_take (i := 5) (v := ?v5_22) rfl (by kernel_rfl) (by kernel_rfl) (by kernel_rfl) (by kernel_rfl) (fun _ _ _ h => h) (Or.inl ⟨by rfl, ?y5_22⟩) hS ?r5_22
      case y5_22 => (intro wq hq; (try simp only [cells_cons, cells_nil, and_true] at hq); first | (go_simp; done) | (go_simp; with_reducible rfl) | (obtain ⟨hq1, hq2⟩ := hq; go_simp; with_reducible rfl))
      try simp only [List.getElem_toArray, List.getElem_cons_succ, List.getElem_cons_zero, Act.put, List.setIfInBounds_toArray, List.set_cons_zero, List.set_cons_succ]
      refine wpTill_take (i := 6) (v := ?v6_23) rfl (by kernel_rfl) (by kernel_rfl) (by kernel_rfl) (by kernel_rfl) (fun _ _ _ h => h) (Or.inl ⟨by rfl, ?y6_23⟩) hS ?r6_23
      case y6_23 => (intro wq hq; (try simp only [cells_cons, cells_nil, and_true] at hq); first | (go_simp; done) | (go_simp; with_reducible rfl) | (obtain ⟨hq1, hq2⟩ := hq; go_simp; with_reducible rfl))
      try simp only [List.getElem_toArray, List.getElem_cons_succ, List.getElem_cons_zero, Act.put, List.setIfInBounds_toArray, List.set_cons_zero, List.set_cons_succ]
      refine wpTill_op (i := 7) (by kernel_rfl) rfl (fun K hK => ?_)
      go_simp
      refine (l1Below_any B 5 _ HMd.out.up.cur (by omega) (by omega)).mono ?_
      rintro r v3 ⟨i3, rfl, hi30, hi31, hd3, hp3⟩
      have HM3 := Lib.hid (HMd.out.step hBl hSl hd3 hp3)
      have hS3 := hS.oth hp3 (by intro q hq; simp only [List.mem_cons, List.not_mem_nil, or_false] at hq; rcases hq with rfl | rfl <;> first | exact hSB | exact hgB)
      clear hd3 hp3 hS
      refine hK.out _ _ (fun _ => hS3) ?_
      clear hK K HMd
      try simp only [List.getElem_toArray, List.getElem_cons_succ, List.getElem_cons_zero, Act.put, List.setIfInBounds_toArray, List.set_cons_zero, List.set_cons_succ]
      have HW3 : Hid (v3.ownsRow (w.heap.size + 1) 47 5 (.slice (some ⟨rb, 0, none⟩) rn rcap) rn (x0.flds.flatMap Fld.cs)) := Lib.hid ((HM3.out.own.each k _ x0 HR.out HX.out).2.2)
      have hw3 : IntKind.i64.wrap (i3 - 1) = i3 - 1 := by rw [IntKind.wrap_i64]; omega
      refine wpTill_op (i := 8) (by kernel_rfl) rfl (fun K hK => ?_)
      go_simp
      clear hw3
      refine hK.out _ _ (fun _ => hS3) ?_
      clear hK K
      try simp only [List.getElem_toArray, List.getElem_cons_succ, List.getElem_cons_zero, Act.put, List.setIfInBounds_toArray, List.set_cons_zero, List.set_cons_succ]
      obtain ⟨u4, d4⟩ := owns_some HW3.out 4 (by omega)
      have hfr : ∀ j, v3.frozen? ⟨rb, j, none⟩ = false := HW3.out.frozenAt
      refine wpTill_op (i := 9) (by kernel_rfl) rfl (fun K hK => ?_)
      go_simp
      refine hK.out _ _ (fun _ => hS3) ?_
      clear hK K
      try simp only [List.getElem_toArray, List.getElem_cons_succ, List.getElem_cons_zero, Act.put, List.setIfInBounds_toArray, List.set_cons_zero, List.set_cons_succ]
      refine wpTill_op (i := 10) (by kernel_rfl) rfl (fun K hK => ?_)
      go_simp
      refine hK.out _ _ (fun _ => hS3) ?_
      clear hK K
      try simp only [List.getElem_toArray, List.getElem_cons_succ, List.getElem_cons_zero, Act.put, List.setIfInBounds_toArray, List.set_cons_zero, List.set_cons_succ]
      refine wpTill_op (i := 11) (by kernel_rfl) rfl (fun K hK => ?_)
      go_simp
      refine hK.out _ _ (fun e => by cases e) ?_
      clear hK K
      refine wpTill_done (by kernel_rfl) ?_ _
      obtain ⟨f0, fs0, hfs0⟩ : ∃ f0 fs0, x0.flds = f0 :: fs0 := by
        have := HN.out
        cases h : x0.flds with
        | nil => rw [h] at this; simp at this; omega
        | cons f fs => exact ⟨f, fs, rfl⟩
      have hst := HW3.out.stored 4 (.int .i64 (i3 - 1))
      have hMF := HM3.out.put (g := rb) (o := 4) (u := .int .i64 (i3 - 1)) hBl (by have := (HW3.out.lt rb rfl).1; omega) (HM3.out.out HW3.out rfl (by decide)) (HM3.out.own.row (by decide) HR.out HX.out hst.2 (fs := ⟨f0.number, f0.kind, f0.rep, f0.packed, i3 - 1⟩ :: fs0) (by rw [← HN.out.symm, hfs0]; rfl) (by have := hst.1; rw [hfs0] at this; exact this)) (HM3.out.good.set k (by have := hx5; rw [hfs0] at this; simp at this ⊢; omega) ⟨HXO.out.id, by have := HXO.out.n; rw [hfs0] at this; simpa using this, by
        have := HXO.out.flds
        rw [hfs0] at this
        intro f hf
        rcases List.mem_cons.1 hf with rfl | hf
        · exact ⟨(this f0 (List.mem_cons_self ..)).number, (this f0 (List.mem_cons_self ..)).kind, w64_of (by simp only; omega) (by simp only; omega)⟩
        · exact this f (List.mem_cons_of_mem _ hf)⟩)
      clear hst hfs0
      obtain ⟨kS', kR', fR', fS'⟩ := seen _ _ _ _ _ _ hMF
      have HMF := Lib.hid hMF; clear hMF hS3 d4 hfr kS kR fR fS
      go_wp2_with fail
      exact fin _ _ _ _ _ _ HMF.out _ rfl
  · have hrn0 : rn = 0 ∨ 0 < rn := by omega
    rcases hrn0 with rfl | h0
    · go_wp2_with fail
      exact fin _ _ _ _ _ _ HM.out _ rfl
    · obtain ⟨rb, cap1, e1, hrb, hrbl⟩ := HW.out.form h0
      simp only [Value.slice.injEq, true_and] at e1
      obtain ⟨rfl, rfl⟩ := e1
      obtain ⟨u3, d3⟩ := owns_some HW.out 3 (by omega)
      have hfr : ∀ j, w3.frozen? ⟨rb, j, none⟩ = false := HW.out.frozenAt
      have hn0 : (0 : Int) < (rn : Int) := by omega
      go_wp2_with fail
      obtain ⟨f0, fs0, hfs0⟩ : ∃ f0 fs0, x0.flds = f0 :: fs0 := by
        have := HN.out
        cases h : x0.flds with
        | nil => rw [h] at this; simp at this; omega
        | cons f fs => exact ⟨f, fs, rfl⟩
      have hst := HW.out.stored 3 (.bool true)
      have hMF := HM.out.put (g := rb) (o := 3) (u := .bool true) hBl (by have := (HW.out.lt rb rfl).1; omega) (HM.out.out HW.out rfl (by decide)) (HM.out.own.row (by decide) HR.out HX.out hst.2 (fs := ⟨f0.number, f0.kind, f0.rep, true, f0.msg⟩ :: fs0) (by rw [← HN.out.symm, hfs0]; rfl) (by have := hst.1; rw [hfs0] at this; exact this)) (HM.out.good.set k (by have := hx5; rw [hfs0] at this; simp at this ⊢; omega) ⟨HXO.out.id, by have := HXO.out.n; rw [hfs0] at this; simpa using this, by
        have := HXO.out.flds
        rw [hfs0] at this
        intro f hf
        rcases List.mem_cons.1 hf with rfl | hf
        · exact ⟨(this f0 (List.mem_cons_self ..)).number, (this f0 (List.mem_cons_self ..)).kind, (this f0 (List.mem_cons_self ..)).msg⟩
        · exact this f (List.mem_cons_of_mem _ hf)⟩)
      exact fin _ _ _ _ _ _ hMF _ rfl
  · clear kS kR fR fS c0 c1 hfz HR HX HW HN HXO hgS hgB
    go_wp2_with fail
    go_loopw [] (fun wr => ∃ (a : Option Addr) (n cap : Nat) (rs : List ShR) (xs : List Shp), Mid8 w B S a n cap rs xs wr ∧ n ≤ 7) (fun wr => msr8 S wr)
    case atStart => exact ⟨_, _, _, _, _, HM.out, by omega⟩
    case round =>
      obtain ⟨a, m, cp, rs, xs, hM, hm7⟩ := hrel
      obtain ⟨wq, hwq⟩ : ∃ wq : World, wq = wr := ⟨_, rfl⟩
      subst hwq
      have hmeas := hM.msr
      obtain ⟨kS, kR, fR, fS⟩ := seen _ _ _ _ _ _ hM
      have HM := Lib.hid hM; have HMS := Lib.hid hmeas; clear hM hmeas
      go_upto_region 15 with fail
      refine wp_region_till (Cells [(⟨S, 0, none⟩, .slice a m cp)]) (fun _ => false) (by kernel_rfl) ?_
      have hS : Cells [(⟨S, 0, none⟩, .slice a m cp)] wq.drew := cells_mk kS (cells_no _)
      have HMd := Lib.hid (HM.out.below (wy := wq.drew) hBl (Below.refl _ _).drew)
      refine wpTill_take (i := 0) (v := ?v0_24) rfl (by kernel_rfl) (by kernel_rfl) (by kernel_rfl) (by kernel_rfl) (fun _ _ _ h => h) (Or.inl ⟨by rfl, ?y0_24⟩) hS ?r0_24
      case y0_24 => (intro wq hq; (try simp only [cells_cons, cells_nil, and_true] at hq); first | (go_simp; done) | (go_simp; with_reducible rfl) | (obtain ⟨hq1, hq2⟩ := hq; go_simp; with_reducible rfl))
      try simp only [List.getElem_toArray, List.getElem_cons_succ, List.getElem_cons_zero, Act.put, List.setIfInBounds_toArray, List.set_cons_zero, List.set_cons_succ]
      refine wpTill_take (i := 1) (v := ?v1_25) rfl (by kernel_rfl) (by kernel_rfl) (by kernel_rfl) (by kernel_rfl) (fun _ _ _ h => h) (Or.inl ⟨by rfl, ?y1_25⟩) hS ?r1_25
      case y1_25 => (intro wq hq; (try simp only [cells_cons, cells_nil, and_true] at hq); first | (go_simp; done) | (go_simp; with_reducible rfl) | (obtain ⟨hq1, hq2⟩ := hq; go_simp; with_reducible rfl))
      try simp only [List.getElem_toArray, List.getElem_cons_succ, List.getElem_cons_zero, Act.put, List.setIfInBounds_toArray, List.set_cons_zero, List.set_cons_succ]
      refine wpTill_take (i := 2) (v := ?v2_26) rfl (by kernel_rfl) (by kernel_rfl) (by kernel_rfl) (by kernel_rfl) (fun _ _ _ h => h) (Or.inl ⟨by rfl, ?y2_26⟩) hS ?r2_26
      case y2_26 => (intro wq hq; (try simp only [cells_cons, cells_nil, and_true] at hq); first | (go_simp; done) | (go_simp; with_reducible rfl) | (obtain ⟨hq1, hq2⟩ := hq; go_simp; with_reducible rfl))
      try simp only [List.getElem_toArray, List.getElem_cons_succ, List.getElem_cons_zero, Act.put, List.setIfInBounds_toArray, List.set_cons_zero, List.set_cons_succ]
      refine wpTill_take (i := 3) (v := ?v3_27) rfl (by kernel_rfl) (by kernel_rfl) (by kernel_rfl) (by kernel_rfl) (fun _ _ _ h => h) (Or.inl ⟨by rfl, ?y3_27⟩) hS ?r3_27
      case y3_27 => (intro wq hq; (try simp only [cells_cons, cells_nil, and_true] at hq); first | (go_simp; done) | (go_simp; with_reducible rfl) | (obtain ⟨hq1, hq2⟩ := hq; go_simp; with_reducible rfl))
      try simp only [List.getElem_toArray, List.getElem_cons_succ, List.getElem_cons_zero, Act.put, List.setIfInBounds_toArray, List.set_cons_zero, List.set_cons_succ]
      refine wpTill_op (i := 4) (by kernel_rfl) rfl (fun K hK => ?_)
      go_simp
      refine (l1Below_any B 2 _ HMd.out.up.cur (by omega) (by omega)).mono ?_
      rintro r v3 ⟨i3, rfl, hi30, hi31, hd3, hp3⟩
      have HM3 := Lib.hid (HMd.out.step hBl hSl hd3 hp3)
      have hS3 := hS.oth hp3 (by intro q hq; simp only [List.mem_cons, List.not_mem_nil, or_false] at hq; subst hq; exact hSB)
      clear hd3 hp3 hS
      refine hK.out _ _ (fun _ => hS3) ?_
      clear hK K HMd
      try simp only [List.getElem_toArray, List.getElem_cons_succ, List.getElem_cons_zero, Act.put, List.setIfInBounds_toArray, List.set_cons_zero, List.set_cons_succ]
      have hw6 : IntKind.i64.wrap (6 + i3) = 6 + i3 := by rw [IntKind.wrap_i64]; omega
      refine wpTill_op (i := 5) (by kernel_rfl) rfl (fun K hK => ?_)
      go_simp
      clear hw6
      refine hK.out _ _ (fun _ => hS3) ?_
      clear hK K
      try simp only [List.getElem_toArray, List.getElem_cons_succ, List.getElem_cons_zero, Act.put, List.setIfInBounds_toArray, List.set_cons_zero, List.set_cons_succ]
      refine wpTill_op (i := 6) (by kernel_rfl) rfl (fun K hK => ?_)
      go_simp
      refine hK.out _ _ (fun _ => hS3) ?_
      clear hK K
      refine wpTill_done (by kernel_rfl) ?_ _
      obtain ⟨kS', kR', fR', fS'⟩ := seen _ _ _ _ _ _ HM3.out
      clear kS kR fR fS hS3 HM
      cases hd : decide ((m : Int) < 6 + i3)
      · go_wp2_with fail
        exact fin _ _ _ _ _ _ HM3.out _ rfl
      · have hlt := of_decide_eq_true hd
        have HA := Lib.hid (HM3.out.below (wy := v3.alloc (.cells #[.int .i64 (91 + m), .slice none 0 0] 43)) hBl ((Below.refl _ _).alloc (Nat.le_refl _) _))
        go_wp2_with (first | (at_builtin; refine wpList_append_lies _ rfl _ _ 28 rfl (w.heap.size + 1) 43 iS _ 2 32 Try.underlying28 hiS hs0 hs1 hs2 rfl (by decide) _ m (rs.flatMap ShR.cs) rfl HA.out.own.outer ⟨v3.heap.size, 0, none⟩ 1 1 [.int .i64 (91 + m), .slice none 0 0] rfl rfl (World.news_of_block (cs := #[.int .i64 (91 + m), .slice none 0 0]) (t := 43) (fr := (0, 0)) (hset_new rfl)) (by simp [Value.oneCell']) (by omega) (by unfold maxLen; omega) (by omega) (by have := box_lt HA.out.res; omega) _ rfl ?_; intro gn capn w11 hown11 hgr11 hat11 hlt11; have hMF := HA.out.push hBl hSl (by omega) (w64_of (u := 91 + m) (by omega) (by omega)) hown11 hgr11; have hS11 := HA.out.boxAt hgr11; have kS2 := box_cells hS11 0; have fS2 := box_frozen hS11; have HMF2 := Lib.hid hMF; clear hMF hS11 hown11 hgr11 hat11 kS' kR' fR' fS'))
        have hme := HMF2.out.msr
        go_roundw
        case rel => exact ⟨_, _, _, _, _, HMF2.out, by omega⟩
        case measure => rw [hme, HMS.out]; omega
  · have y0 : (y == 0) = false := by simp; omega
    have y1 : (y == 1) = false := by simp; omega
    have y2 : (y == 2) = false := by simp; omega
    have y3 : (y == 3) = false := by simp; omega
    have y4 : (y == 4) = false := by simp; omega
    go_wp2_with fail
    exact fin _ _ _ _ _ _ HM.out _ rfl
end Go.Proofs.Ytbgejldjgkihaaa

/- Texts that FnRawBack leans on, part 5. (Put together by wip/tools/bundle.py.) -/
import Derived.Lib.Slices
import Derived.Test.YtbpilecgnfnndaaBack1
import Derived.Test.YtbpilecgnfnndaaBack2
import Derived.Test.YtbpilecgnfnndaaBack3
import Derived.Test.YtbpilecgnfnndaaBack4
namespace Go.Proofs.Ytbpilecgnfnndaa
set_option linter.unusedSimpArgs false
set_option linter.unusedVariables false
open Go.ChangeShapes Go.WideShapes Go.ChangeAt Go.RowKit Go.BigFrame
theorem fldSum_mul {xs : List Shp} {m : Nat} (h : ∀ x ∈ xs, x.flds.length ≤ m) : fldSum xs ≤ m * xs.length := by
  induction xs with
  | nil => simp [fldSum]
  | cons x xs ih =>
    have h1 := ih fun y hy => h y (List.mem_cons_of_mem _ hy)
    have h2 := h x (List.mem_cons_self ..)
    simp only [fldSum, List.map_cons, List.sum_cons, List.length_cons, Nat.mul_succ] at h1 ⊢
    omega
theorem w64_of {u : Int} (h0 : -1000000000 ≤ u) (h1 : u ≤ 1000000000) : W64 u := by
  unfold W64; simp [Lit.wf, IntKind.min, IntKind.max, IntKind.signed, IntKind.bits]; omega
theorem putF_mem : ∀ {fs : List Fld} {f g : Fld}, g ∈ putF fs f → g = f ∨ g ∈ fs
  | [], f, g, h => by simp [putF] at h; exact .inl h
  | k :: fs, f, g, h => by
    unfold putF at h
    split at h
    · rcases List.mem_cons.1 h with rfl | h
      · exact .inr (List.mem_cons_self ..)
      · rcases putF_mem h with rfl | h
        · exact .inl rfl
        · exact .inr (List.mem_cons_of_mem _ h)
    · rcases List.mem_cons.1 h with rfl | h
      · exact .inl rfl
      · exact .inr h
theorem cflds_mem {xs : List Shp} : ∀ {fs l : List Fld} {g : Fld}, g ∈ cflds xs l fs → g ∈ l ∨ ∃ f ∈ fs, g = cfld xs f
  | [], l, g, h => .inl h
  | f :: fs, l, g, h => by
    rw [cflds] at h
    rcases cflds_mem h with h1 | ⟨f', hf, rfl⟩
    · rcases putF_mem h1 with rfl | h2
      · exact .inr ⟨f, List.mem_cons_self .., rfl⟩
      · exact .inl h2
    · exact .inr ⟨f', List.mem_cons_of_mem _ hf, rfl⟩
theorem cgo_mem {xs : List Shp} : ∀ {rest ys : List Shp} {y : Shp}, y ∈ cgo xs ys rest → y ∈ ys ∨ ∃ x ∈ rest, y = ⟨x.id, cflds xs [] x.flds⟩
  | [], ys, y, h => .inl h
  | x :: rest, ys, y, h => by
    rw [cgo] at h
    rcases cgo_mem h with h1 | ⟨x', hx, rfl⟩
    · rcases List.mem_or_eq_of_mem_set h1 with h2 | rfl
      · exact .inl h2
      · exact .inr ⟨x, List.mem_cons_self .., rfl⟩
    · exact .inr ⟨x', List.mem_cons_of_mem _ hx, rfl⟩
theorem compS_mem {xs : List Shp} {y : Shp} (h : y ∈ compS xs) : y = ⟨0, []⟩ ∨ ∃ x ∈ xs, y = ⟨x.id, cflds xs [] x.flds⟩ := by
  rcases cgo_mem h with h1 | h1
  · exact .inl (List.mem_replicate.1 h1).2
  · exact .inr h1
structure SchG (xs : List Shp) : Prop where
  len : ∀ x ∈ xs, x.flds.length ≤ 5
  ok : ∀ x ∈ xs, ShpOk x
  msg : ∀ x ∈ xs, ∀ f ∈ x.flds, f.kind = 8 → 0 ≤ f.msg ∧ f.msg < xs.length
theorem SchG.sum {xs : List Shp} (h : SchG xs) (hl : xs.length ≤ 1000) : fldSum xs ≤ 1048576 := Nat.le_trans (fldSum_mul h.len) (by omega)
theorem numOk_le {n : Int} (h : numOk n = true) : 1 ≤ n ∧ n ≤ 536870911 := by
  simp only [numOk, inB, Bool.and_eq_true, decide_eq_true_eq] at h; exact h.1
theorem inB_le {x a b : Int} (h : inB x a b = true) : a ≤ x ∧ x ≤ b := by simpa [inB] using h
theorem RawGood.len5 {ids : List Int} {i : Nat} {xs : List Shp} (h : RawGood ids i 0 xs) {x : Shp} (hx : x ∈ xs) : x.flds.length ≤ 5 := by
  obtain ⟨j, hj, rfl⟩ := List.getElem_of_mem hx
  have := h.len j xs[j] (List.getElem?_eq_getElem hj)
  split at this <;> (try split at this) <;> omega
theorem RawGood.id99 {ids : List Int} {i : Nat} {xs : List Shp} (h : RawGood ids i 0 xs) (hids : ∀ k ∈ ids, 1 ≤ k ∧ k ≤ 99) {x : Shp} (hx : x ∈ xs) : 1 ≤ x.id ∧ x.id ≤ 99 := by
  refine hids x.id ?_
  rw [← h.ids_]
  exact List.mem_map_of_mem hx
theorem compS_good {ids : List Int} {i : Nat} {xs : List Shp} (h : RawGood ids i 0 xs) (hids : ∀ k ∈ ids, 1 ≤ k ∧ k ≤ 99) (hl : xs.length ≤ 1000) : SchG (compS xs) := by
  have key : ∀ y ∈ compS xs, (W64 y.id ∧ y.flds.length ≤ 5) ∧ ∀ g ∈ y.flds, g.ok ∧ (g.kind = 8 → 0 ≤ g.msg ∧ g.msg < xs.length) := by
    intro y hy
    rcases compS_mem hy with rfl | ⟨x, hx, rfl⟩
    · exact ⟨⟨w64_of (u := 0) (by omega) (by omega), by simp⟩, fun g hg => by cases hg⟩
    · have hid := h.id99 hids hx
      refine ⟨⟨w64_of (by simp only; omega) (by simp only; omega), ?_⟩, fun g hg => ?_⟩
      · rw [cflds_len]; have := h.len5 hx; simpa using this
      · rcases cflds_mem hg with hg | ⟨f, hf, rfl⟩
        · cases hg
        · have hF := (h.good x hx).2 f hf
          have h1 := numOk_le hF.num
          have h2 := inB_le hF.kind
          have hr := hF.ref
          have hrk : f.kind = 8 → rankS xs f.msg < xs.length := by
            intro h8
            rw [if_pos h8] at hr
            simp only [hasI, List.any_eq_true, beq_iff_eq] at hr
            obtain ⟨j, hj, e⟩ := hr
            rw [← h.ids_] at hj
            obtain ⟨z, hz, rfl⟩ := List.mem_map.1 hj
            rw [← e]
            exact rank_lt hz
          by_cases h8 : f.kind = 8
          · have h3 := hrk h8
            refine ⟨⟨w64_of (by simp only [cfld]; omega) (by simp only [cfld]; omega), w64_of (by simp only [cfld]; omega) (by simp only [cfld]; omega), ?_⟩, fun _ => ?_⟩
            · simp only [cfld, if_pos h8]; exact w64_of (by omega) (by omega)
            · simp only [cfld, if_pos h8]; omega
          · refine ⟨⟨w64_of (by simp only [cfld]; omega) (by simp only [cfld]; omega), w64_of (by simp only [cfld]; omega) (by simp only [cfld]; omega), ?_⟩, fun e => absurd e h8⟩
            simp only [cfld, if_neg h8]; exact w64_of (by omega) (by omega)
  refine ⟨fun x hx => (key x hx).1.2, fun x hx => ⟨(key x hx).1.1, ?_, fun f hf => ((key x hx).2 f hf).1⟩, fun x hx f hf e => ?_⟩
  · have := (key x hx).1.2; unfold maxLen; omega
  · rw [compS_len]; exact ((key x hx).2 f hf).2 e
theorem idL_ok (n : Nat) : ∀ k ∈ idL.take n, 1 ≤ k ∧ k ≤ 99 := by
  intro k hk
  have := List.mem_of_mem_take hk
  simp only [idL, List.mem_cons, List.not_mem_nil, or_false] at this
  rcases this with rfl | rfl | rfl <;> omega
theorem idL_form {n : Nat} (h1 : 1 ≤ n) (h3 : n ≤ 3) : idL.take n = [5] ∨ idL.take n = [5, 1] ∨ idL.take n = [5, 1, 99] := by
  have : n = 1 ∨ n = 2 ∨ n = 3 := by omega
  rcases this with rfl | rfl | rfl <;> simp [idL]
def DrawnSch (B : Nat) (w : World) (r : Ending) (w' : World) : Prop :=
  ∃ a n cap rs xs, r = .returned (.agg #[.slice a n cap]) ∧ OwnShs w' w.heap.size 43 47 (.slice a n cap) n rs xs ∧ 1 ≤ n ∧ n ≤ 3 ∧ SchG xs ∧ Up B w w'
set_option maxRecDepth 100000 in
set_option maxHeartbeats 4000000 in
theorem l8Right_any (B : Nat) (w : World) (hc : Cur w B) : Calls Try.prog 80 #[.pointer (some ⟨B, 0, none⟩)] w (DrawnSch B w) := by
  have hBl := hc.lt
  go_enter Try.func80, Try.ntmps80
  go_wp2_with fail
  refine (l6Right_any B _ (hc.below (by ((repeat (first | (with_reducible exact Below.refl _ _) | (with_reducible assumption) | (with_reducible refine Below.alloc ?_ ?_ _) | (with_reducible refine Below.setCell ?_ ?_ _) | (with_reducible refine Below.drew ?_) | (with_reducible refine below_setRow ?_ ?_ _) | (refine Below.trans ?_ (Below.mono (by assumption) ?_)))); all_goals (first | omega | (simp; done) | (simp; omega)))))).mono ?_
  rintro r w1 ⟨a, n, cap, rs, xs, i, rfl, ho, h1, h3, hg, hu⟩
  have hxl := ho.lenx
  have hv := good_first hg (idL_form h1 h3)
  have h5 : ∀ x ∈ xs, x.flds.length ≤ 5 := fun x hx => hg.len5 hx
  have hms : fldSum xs ≤ 1048576 := Nat.le_trans (fldSum_mul h5) (by omega)
  have HG := Lib.hid (compS_good hg (idL_ok n) (by omega))
  have HO := Lib.hid ho; have HV := Lib.hid hv; have HX := Lib.hid hxl; have HU := Lib.hid hu; clear ho hv hxl hu hg
  go_wp2_with fail
  refine (specCompile_ok a cap n xs w1 HO.out.shsL HX.out (by omega) (fun x hx => Nat.le_trans (h5 x hx) (by omega)) hms HV.out).mono ?_
  rintro r w2 ⟨a2, cap2, rs2, rfl, ho2, hb2⟩
  have hR2 := (hb2.block w.heap.size (by have := HU.out.oth.size; simp at this; omega)).trans ((HU.out.oth.block (b := w.heap.size) (by simp) (by omega)).trans (hset_new (o := .cells #[.slice none 0 0] 30) rfl))
  have hu2 : Up B w w2 := (((Up.refl hc).alloc hBl _).step HU.out.cur HU.out.oth).below hBl hb2 (by have := HU.out.oth.size; simp at this; omega)
  have hlR := box_lt hR2; have kR := box_cells hR2 0; have fR := box_frozen hR2
  simp only [List.getElem?_toArray, List.getElem?_cons_zero] at kR
  have HR2 := Lib.hid hR2; have HO2 := Lib.hid ho2; clear hR2 ho2
  have hz2 := hb2.size
  have hz1 := HU.out.oth.size
  simp only [World.size_alloc] at hz1
  have fin : ∀ W : World, W.heap[w.heap.size]? = some (.cells #[.slice a2 n cap2] 30 (0, 0)) → OwnShs W w.heap.size 43 47 (.slice a2 n cap2) n rs2 (compS xs) → Up B w W → ∀ (tm : Array Value), tm.getD 2 undef = .pointer (some ⟨w.heap.size, 0, none⟩) → bodyPost Try.prog Try.f80 (DrawnSch B w) .ret ⟨tm, []⟩ W := by
    intro W h1' h2 h3' tm t1
    exact bodyPost_ret (results_cell Try.results80 t1 (run_loadVar_mid W w.heap.size 0 30 [.slice a2 n cap2] _ (range_of_box h1') Try.underlying30 rfl (by kernel_rfl))) rfl ⟨_, _, _, _, _, rfl, h2, h1, h3, HG.out, h3'⟩
  go_wp2_with fail
  refine fin _ ?_ ?_ ?_ _ rfl
  · exact hset_alloc (hset_alloc (by apply hset_eq (hset_set HR2.out); simp only [List.setIfInBounds_toArray, List.set_cons_zero]))
  · exact OwnShs.le (((HO2.out.set (by simp; omega) _).alloc _).alloc _) (by omega)
  · exact ((hu2.below hBl ((Below.refl w.heap.size _).setCell (by simp) _) (Nat.le_refl _)).alloc hBl _).alloc hBl _
end Go.Proofs.Ytbpilecgnfnndaa
namespace Go.Proofs.Ytbpilecgnfnndaa
set_option linter.unusedSimpArgs false
set_option linter.unusedVariables false
open Go.ChangeShapes Go.WideShapes Go.ChangeAt Go.RowKit Go.BigFrame
theorem owns_setBox {w : World} {base n size S o : Nat} {t TS : TypeId} {v : Value} {L : List Value} {cs : Array Value} (h : w.ownsRow base t size v n L) (hS : w.heap[S]? = some (.cells cs TS (0, 0))) (hne : TS ≠ t) (u : Value) : (w.setCell ⟨S, o, none⟩ u).ownsRow base t size v n L := by
  refine h.kept (row := some S) ⟨rfl, rfl, rfl, by simp, fun k _ hk => heap_setCell_other w ⟨S, o, none⟩ k u (fun e => hk (by simp [e]))⟩ (.inr fun e => ?_)
  obtain ⟨c, hc⟩ := own_box h e
  rw [hS] at hc
  simp at hc
  exact hne hc.2
theorem OwnShs.setBox {w : World} {base n S o : Nat} {T TF TS : TypeId} {v : Value} {rs : List ShR} {xs : List Shp} {cs : Array Value} (h : OwnShs w base T TF v n rs xs) (hS : w.heap[S]? = some (.cells cs TS (0, 0))) (h1 : TS ≠ T) (h2 : TS ≠ TF) (u : Value) : OwnShs (w.setCell ⟨S, o, none⟩ u) base T TF v n rs xs :=
  ⟨h.len, h.lenx, owns_setBox h.outer hS h1 u, fun k r x hr hx => ⟨(h.each k r x hr hx).1, (h.each k r x hr hx).2.1, owns_setBox (h.each k r x hr hx).2.2 hS h2 u⟩, h.apart⟩
theorem Cells.oth {l : List (Addr × Value)} {w w' : World} {B : Nat} (h : Cells l w) (ho : Oth B w w') (hB : ∀ q ∈ l, q.1.block ≠ B) : Cells l w' := fun q hq => by
  have hlt := World.block_lt_of_cell? w _ (h q hq)
  exact (World.cell?_of_block (ho.block hlt (hB q hq))).trans (h q hq)
structure SchB (xs : List Shp) : Prop where
  n : xs.length ≤ 7
  len : ∀ x ∈ xs, x.flds.length ≤ 6
  ok : ∀ x ∈ xs, ShpOk x
theorem SchG.bent {xs : List Shp} (h : SchG xs) (hn : xs.length ≤ 7) : SchB xs := ⟨hn, fun x hx => Nat.le_trans (h.len x hx) (by omega), h.ok⟩
theorem SchB.sum {xs : List Shp} (h : SchB xs) : fldSum xs ≤ 1048576 := Nat.le_trans (fldSum_mul h.len) (by have := h.n; omega)
theorem SchB.set {xs : List Shp} (h : SchB xs) (q : Nat) {x : Shp} (h1 : x.flds.length ≤ 6) (h2 : ShpOk x) : SchB (xs.set q x) := by
  refine ⟨by simpa using h.n, fun y hy => ?_, fun y hy => ?_⟩ <;> rcases List.mem_or_eq_of_mem_set hy with h' | rfl
  · exact h.len y h'
  · exact h1
  · exact h.ok y h'
  · exact h2
theorem SchB.push {xs : List Shp} (h : SchB xs) (hn : xs.length < 7) {i : Int} (hi : W64 i) : SchB (xs ++ [⟨i, []⟩]) := by
  refine ⟨by simp; omega, fun y hy => ?_, fun y hy => ?_⟩ <;> rcases List.mem_append.1 hy with h' | h'
  · exact h.len y h'
  · simp at h'; subst h'; simp
  · exact h.ok y h'
  · simp at h'; subst h'; exact ⟨hi, by simp, fun f hf => by cases hf⟩
def DrawnSB (B : Nat) (w : World) (r : Ending) (w' : World) : Prop :=
  ∃ a n cap rs xs, r = .returned (.agg #[.slice a n cap]) ∧ OwnShs w' w.heap.size 43 47 (.slice a n cap) n rs xs ∧ SchB xs ∧ Up B w w'
structure Mid8 (w : World) (B : Nat) (S : Nat) (a : Option Addr) (n cap : Nat) (rs : List ShR) (xs : List Shp) (wx : World) : Prop where
  own : OwnShs wx (w.heap.size + 1) 43 47 (.slice a n cap) n rs xs
  good : SchB xs
  res : wx.heap[w.heap.size]? = some (.cells #[.slice none 0 0] 30 (0, 0))
  box : wx.heap[S]? = some (.cells #[.slice a n cap] 30 (0, 0))
  up : Up B w wx
section
variable {w : World} {B S : Nat} {a : Option Addr} {n cap : Nat} {rs : List ShR} {xs : List Shp} {wx wy : World}
theorem Mid8.step (h : Mid8 w B S a n cap rs xs wx) (hB : B < w.heap.size) (hS : w.heap.size < S) (hc : Cur wy B) (ho : Oth B wx wy) : Mid8 w B S a n cap rs xs wy :=
  ⟨h.own.oth ho (by omega), h.good, (ho.block (box_lt h.res) (by omega)).trans h.res, (ho.block (box_lt h.box) (by omega)).trans h.box, h.up.step hc ho⟩
theorem Mid8.below (h : Mid8 w B S a n cap rs xs wx) (hB : B < w.heap.size) (hb : Below wx.heap.size wx wy) : Mid8 w B S a n cap rs xs wy :=
  ⟨h.own.below hb (Nat.le_refl _), h.good, (hb.block _ (box_lt h.res)).trans h.res, (hb.block _ (box_lt h.box)).trans h.box, h.up.below hB hb h.up.oth.size⟩
theorem Mid8.out {g : Nat} (h : Mid8 w B S a n cap rs xs wx) {t : TypeId} {v : Value} {L : List Value} {k sz base : Nat} (ho : wx.ownsRow base t sz v k L) (hv : v.ownBlock = some g) (ht : t ≠ 30) : g ≠ S := by
  intro e
  obtain ⟨c, hc⟩ := own_box ho hv
  rw [e, h.box] at hc
  simp at hc
  exact ht hc.2.symm
theorem Mid8.put {g o : Nat} {u : Value} {rs' : List ShR} {xs' : List Shp} (h : Mid8 w B S a n cap rs xs wx) (hB : B < w.heap.size) (hg : w.heap.size < g) (hgS : g ≠ S) (own' : OwnShs (wx.setCell ⟨g, o, none⟩ u) (w.heap.size + 1) 43 47 (.slice a n cap) n rs' xs') (good' : SchB xs') :
    Mid8 w B S a n cap rs' xs' (wx.setCell ⟨g, o, none⟩ u) :=
  ⟨own', good', hset_other h.res (by simp; omega), hset_other h.box (by simpa using Ne.symm hgS), h.up.below hB ((Below.refl (w.heap.size + 1) _).setCell (by simp; omega) _) (by omega)⟩
theorem Mid8.boxAt {w11 : World} (h : Mid8 w B S a n cap rs xs wx) (hg : wx.grownBy w11 (Value.slice a n cap).ownBlock) : w11.heap[S]? = some (.cells #[.slice a n cap] 30 (0, 0)) :=
  (hg.block S (box_lt h.box) (fun e => h.out h.own.outer e.symm (by decide) rfl)).trans h.box
theorem Mid8.push {w11 : World} {g' capn : Nat} {i : Int} (h : Mid8 w B S a n cap rs xs wx) (hB : B < w.heap.size) (hSl : w.heap.size < S) (hn : n < 7) (hi : W64 i) (hown : w11.ownsRow (w.heap.size + 1) 43 2 (.slice (some ⟨g', 0, none⟩) (n + 1) capn) (n + 1) (rs.flatMap ShR.cs ++ [.int .i64 i, .slice none 0 0]))
    (hg : wx.grownBy w11 (Value.slice a n cap).ownBlock) :
    Mid8 w B S (some ⟨g', 0, none⟩) (n + 1) capn (rs ++ [⟨i, none, 0, 0⟩]) (xs ++ [⟨i, []⟩]) (w11.setCell ⟨S, 0, none⟩ (.slice (some ⟨g', 0, none⟩) (n + 1) capn)) := by
  have hS := h.boxAt hg
  have hz := h.up.oth.size
  have hb : Below (w.heap.size + 1) wx w11 := below_grown (Below.refl _ _) hg (fun b e => (h.own.outer.lt b e).1) (by have := box_lt h.res; omega)
  have hSR : S ≠ w.heap.size := by omega
  refine ⟨OwnShs.setBox (h.own.push (r := ⟨i, none, 0, 0⟩) (x := ⟨i, []⟩) (by decide) ⟨rfl, rfl, World.ownsRow_nil _ _ _ _⟩ (fun _ _ _ _ _ e => by simp [Value.ownBlock] at e) hown hg) hS (by decide) (by decide) _, h.good.push (by rw [h.own.lenx]; exact hn) hi, hset_other ((hb.block _ (by omega)).trans h.res) (by simpa using Ne.symm hSR), ?_, ?_⟩
  · apply hset_eq (hset_set hS); simp only [List.setIfInBounds_toArray, List.set_cons_zero]
  · exact h.up.below hB (hb.setCell (by simp; omega) _) (by omega)
end
def msr8 (S : Nat) (w : World) : Nat := match w.cell? ⟨S, 0, none⟩ with | some (.slice _ n _) => 8 - n | _ => 0
theorem Mid8.msr {w : World} {B S : Nat} {a : Option Addr} {n cap : Nat} {rs : List ShR} {xs : List Shp} {wx : World} (h : Mid8 w B S a n cap rs xs wx) : msr8 S wx = 8 - n := by
  have k : wx.cell? ⟨S, 0, none⟩ = some (.slice a n cap) := box_cells h.box 0
  unfold msr8; rw [k]
set_option maxRecDepth 100000 in
set_option maxHeartbeats 4000000 in
theorem l8Bent_any (B : Nat) (w : World) (hc : Cur w B) : Calls Try.prog 49 #[.pointer (some ⟨B, 0, none⟩)] w (DrawnSB B w) := by
  have hBl := hc.lt
  obtain ⟨iS, hiS, hs0, hs1, hs2⟩ := info_parts info_ShapeC
  obtain ⟨iF, hiF, hf0, hf1, hf2⟩ := info_parts info_Fld5
  go_enter Try.func49, Try.ntmps49
  go_wp2_with fail
  refine (l8Right_any B _ (hc.below (by ((repeat (first | (with_reducible exact Below.refl _ _) | (with_reducible assumption) | (with_reducible refine Below.alloc ?_ ?_ _) | (with_reducible refine Below.setCell ?_ ?_ _) | (with_reducible refine Below.drew ?_) | (with_reducible refine below_setRow ?_ ?_ _) | (refine Below.trans ?_ (Below.mono (by assumption) ?_)))); all_goals (first | omega | (simp; done) | (simp; omega)))))).mono ?_
  rintro r w1 ⟨a, n, cap, rs, xs, rfl, ho, h1, h3, hg, hu⟩
  have hz1 := hu.oth.size
  simp only [World.size_alloc] at hz1
  have hxl := ho.lenx
  have hM1 : Mid8 w B w1.heap.size a n cap rs xs (w1.alloc (.cells #[.slice a n cap] 30)) :=
    ⟨(ho.le (by simp)).alloc _, hg.bent (by omega), hset_alloc ((hu.oth.block (b := w.heap.size) (by simp) (by omega)).trans (hset_new (o := .cells #[.slice none 0 0] 30) rfl)), hset_new rfl, (((Up.refl hc).alloc hBl _).step hu.cur hu.oth).alloc hBl _⟩
  have HM1 := Lib.hid hM1; clear hM1 ho hu hxl
  have HG := Lib.hid hg; clear hg
  go_wp2_with fail
  refine (l1Below_any B n _ HM1.out.up.cur (by omega) (by omega)).mono ?_
  rintro r w2 ⟨x, rfl, hx0, hx1, hc2, ho2⟩
  obtain ⟨k, rfl⟩ := Int.eq_ofNat_of_zero_le hx0
  have hk : k < n := by omega
  have hM2 := HM1.out.step hBl (by omega) hc2 ho2
  go_wp2_with fail
  refine (l1Below_any B 10 _ hc2 (by omega) (by omega)).mono ?_
  rintro r w3 ⟨y, rfl, hy0, hy1, hc3, ho3⟩
  have hM3 := hM2.step hBl (by omega) hc3 ho3
  obtain ⟨S, hS⟩ : ∃ S, w1.heap.size = S := ⟨_, rfl⟩
  rw [hS] at hM3
  have hM := hM3; clear hM3 hM2 hc2 ho2 hc3 ho3 HM1
  have hSl : w.heap.size < S := by omega
  simp only [hS]
  clear hS hz1
  have fin : ∀ (W : World) (a : Option Addr) (n cap : Nat) (rs : List ShR) (xs : List Shp), Mid8 w B S a n cap rs xs W → ∀ (tm : Array Value), tm.getD 2 undef = .pointer (some ⟨w.heap.size, 0, none⟩) → bodyPost Try.prog Try.f49 (DrawnSB B w) .ret ⟨tm, []⟩ (W.setCell ⟨w.heap.size, 0, none⟩ (.slice a n cap)) := by
    intro W a n cap rs xs h tm t1
    refine bodyPost_ret (results_cell Try.results49 t1 (run_loadVar_mid _ w.heap.size 0 30 [.slice a n cap] _ (range_of_box (t := 30) ?_) Try.underlying30 rfl (by kernel_rfl))) rfl ⟨_, _, _, _, _, rfl, (h.own.set (by simp) _).le (by omega), h.good, h.up.below hBl ((Below.refl w.heap.size _).setCell (by simp) _) (Nat.le_refl _)⟩
    apply hset_eq (hset_set h.res); simp only [List.setIfInBounds_toArray, List.set_cons_zero]
  have seen : ∀ (W : World) (a : Option Addr) (n cap : Nat) (rs : List ShR) (xs : List Shp), Mid8 w B S a n cap rs xs W → W.cell? ⟨S, 0, none⟩ = some (.slice a n cap) ∧ W.cell? ⟨w.heap.size, 0, none⟩ = some (.slice none 0 0) ∧ (∀ j, W.frozen? ⟨w.heap.size, j, none⟩ = false) ∧ (∀ j, W.frozen? ⟨S, j, none⟩ = false) := fun W a n cap rs xs h => ⟨box_cells h.box 0, box_cells h.res 0, box_frozen h.res, box_frozen h.box⟩
  obtain ⟨g, cap0, e0, hg0, hgl⟩ := hM.own.outer.form (by omega)
  simp only [Value.slice.injEq, true_and] at e0
  obtain ⟨rfl, rfl⟩ := e0
  obtain ⟨⟨rid, ra, rn, rcap⟩, hr, hrm⟩ := at_lt (xs := rs) (k := k) (by rw [hM.own.len]; exact hk)
  obtain ⟨x0, hx, hxm⟩ := at_lt (xs := xs) (k := k) (by rw [hM.own.lenx]; exact hk)
  obtain ⟨hrid, hrn, hrow⟩ := hM.own.each k _ x0 hr hx
  simp only at hrid hrn hrow
  have c0 : w3.cell? ⟨g, k * 2, none⟩ = some (.int .i64 rid) := by
    exact own_at hM.own.outer (by rw [show k * 2 = k * 2 + 0 by rfl, flatMap_at shR_len rs k 0 _ hr (by omega)]; rfl)
  have c1 : w3.cell? ⟨g, k * 2 + 1, none⟩ = some (.slice ra rn rcap) := by
    exact own_at hM.own.outer (by rw [flatMap_at shR_len rs k 1 _ hr (by omega)]; rfl)
  have hfz : ∀ j, w3.frozen? ⟨g, j, none⟩ = false := hM.own.outer.frozenAt
  have hgS : g ≠ S := hM.out hM.own.outer rfl (by decide)
  have hgB : g ≠ B := by omega
  have hSB : S ≠ B := by omega
  have hx5 : x0.flds.length ≤ 5 := HG.out.len x0 hxm
  have hxo : ShpOk x0 := HG.out.ok x0 hxm
  have HXO := Lib.hid hxo; clear hxo
  have HR := Lib.hid hr; have HX := Lib.hid hx; have HW := Lib.hid hrow; clear hr hx hrow hrm hxm hrid
  have HN := Lib.hid hrn; clear hrn
  obtain ⟨kS, kR, fR, fS⟩ := seen _ _ _ _ _ _ hM
  have HM := Lib.hid hM; clear hM
  have hkn : (k : Int) < (n : Int) := by omega
  rcases (show y = 0 ∨ y = 1 ∨ y = 2 ∨ y = 3 ∨ y = 4 ∨ 5 ≤ y by omega) with rfl | rfl | rfl | rfl | rfl | h5
  · go_upto_region 5 with fail
    refine wp_region_till (Cells [(⟨S, 0, none⟩, .slice (some ⟨g, 0, none⟩) n cap)]) (fun i => decide (8 ≤ i)) (by kernel_rfl) ?_
    have hS : Cells [(⟨S, 0, none⟩, .slice (some ⟨g, 0, none⟩) n cap)] w3.drew := cells_mk kS (cells_no _)
    refine wpTill_take (i := 0) (v := ?v0_46) rfl (by kernel_rfl) (by kernel_rfl) (by kernel_rfl) (by kernel_rfl) (fun _ _ _ h => h) (Or.inl ⟨by rfl, ?y0_46⟩) hS ?r0_46
    case y0_46 => (intro wq hq; (try simp only [cells_cons, cells_nil, and_true] at hq); first | (go_simp; done) | (go_simp; with_reducible rfl) | (obtain ⟨hq1, hq2⟩ := hq; go_simp; with_reducible rfl))
    try simp only [List.getElem_toArray, List.getElem_cons_succ, List.getElem_cons_zero, Act.put, List.setIfInBounds_toArray, List.set_cons_zero, List.set_cons_succ]
    refine wpTill_take (i := 1) (v := ?v1_47) rfl (by kernel_rfl) (by kernel_rfl) (by kernel_rfl) (by kernel_rfl) (fun _ _ _ h => h) (Or.inl ⟨by rfl, ?y1_47⟩) hS ?r1_47
    case y1_47 => (intro wq hq; (try simp only [cells_cons, cells_nil, and_true] at hq); first | (go_simp; done) | (go_simp; with_reducible rfl) | (obtain ⟨hq1, hq2⟩ := hq; go_simp; with_reducible rfl))
    try simp only [List.getElem_toArray, List.getElem_cons_succ, List.getElem_cons_zero, Act.put, List.setIfInBounds_toArray, List.set_cons_zero, List.set_cons_succ]
    refine wpTill_take (i := 2) (v := ?v2_48) rfl (by kernel_rfl) (by kernel_rfl) (by kernel_rfl) (by kernel_rfl) (fun _ _ _ h => h) (Or.inl ⟨by rfl, ?y2_48⟩) hS ?r2_48
    case y2_48 => (intro wq hq; (try simp only [cells_cons, cells_nil, and_true] at hq); first | (go_simp; done) | (go_simp; with_reducible rfl) | (obtain ⟨hq1, hq2⟩ := hq; go_simp; with_reducible rfl))
    try simp only [List.getElem_toArray, List.getElem_cons_succ, List.getElem_cons_zero, Act.put, List.setIfInBounds_toArray, List.set_cons_zero, List.set_cons_succ]
    refine wpTill_take (i := 3) (v := ?v3_49) rfl (by kernel_rfl) (by kernel_rfl) (by kernel_rfl) (by kernel_rfl) (fun _ _ _ h => h) (Or.inl ⟨by rfl, ?y3_49⟩) hS ?r3_49
    case y3_49 => (intro wq hq; (try simp only [cells_cons, cells_nil, and_true] at hq); first | (go_simp; done) | (go_simp; with_reducible rfl) | (obtain ⟨hq1, hq2⟩ := hq; go_simp; with_reducible rfl))
    try simp only [List.getElem_toArray, List.getElem_cons_succ, List.getElem_cons_zero, Act.put, List.setIfInBounds_toArray, List.set_cons_zero, List.set_cons_succ]
    refine wpTill_op (i := 4) (by kernel_rfl) rfl (fun K hK => ?_)
    go_simp
    refine hK.out _ _ (fun _ => (hS.alloc _).drew) ?_
    clear hK K
    try simp only [List.getElem_toArray, List.getElem_cons_succ, List.getElem_cons_zero, Act.put, List.setIfInBounds_toArray, List.set_cons_zero, List.set_cons_succ]
    have hMa := HM.out.below (wy := (w3.alloc (.cells #[.int .i64 0, .int .i64 5, .int .i64 100, .int .i64 (-1)] 3)).drew) hBl ((Below.refl _ _).alloc (Nat.le_refl _) _).drew
    refine wpTill_op (i := 5) (by kernel_rfl) rfl (fun K hK => ?_)
    go_simp
    refine (l1PickInt_in B w3.heap.size 4 [0, 5, 100, -1] 3 _ hMa.up.cur (by have := box_lt HM.out.box; omega) (hset_drew (hset_new rfl)) (by decide) (by decide)).mono ?_
    rintro r w5 ⟨i, rfl, him, hc5, ho5⟩
    have hiw : W64 i := by
      simp only [List.mem_cons, List.not_mem_nil, or_false] at him
      rcases him with rfl | rfl | rfl | rfl <;> exact w64_lim (by omega) (by omega)
    have hM5 := hMa.step hBl hSl hc5 ho5
    have hS5 : Cells [(⟨S, 0, none⟩, .slice (some ⟨g, 0, none⟩) n cap)] w5 := cells_mk (box_cells hM5.box 0) (cells_no _)
    have c05 : w5.cell? ⟨g, k * 2, none⟩ = some (.int .i64 rid) := by
      exact own_at hM5.own.outer (by rw [show k * 2 = k * 2 + 0 by rfl, flatMap_at shR_len rs k 0 _ HR.out (by omega)]; rfl)
    have hfz5 : ∀ j, w5.frozen? ⟨g, j, none⟩ = false := hM5.own.outer.frozenAt
    have HM5 := Lib.hid hM5; have HI := Lib.hid hiw; clear hM5 hiw him hc5 ho5 hMa c0 c1 hfz
    refine hK.out _ _ (fun _ => hS5) ?_
    clear hK K hS
    try simp only [List.getElem_toArray, List.getElem_cons_succ, List.getElem_cons_zero, Act.put, List.setIfInBounds_toArray, List.set_cons_zero, List.set_cons_succ]
    refine wpTill_op (i := 6) (by kernel_rfl) rfl (fun K hK => ?_)
    go_simp
    refine hK.out _ _ (fun _ => hS5) ?_
    clear hK K
    try simp only [List.getElem_toArray, List.getElem_cons_succ, List.getElem_cons_zero, Act.put, List.setIfInBounds_toArray, List.set_cons_zero, List.set_cons_succ]
    refine wpTill_op (i := 7) (by kernel_rfl) rfl (fun K hK => ?_)
    go_simp
    refine hK.out _ _ (fun _ => hS5) ?_
    clear hK K
    try simp only [List.getElem_toArray, List.getElem_cons_succ, List.getElem_cons_zero, Act.put, List.setIfInBounds_toArray, List.set_cons_zero, List.set_cons_succ]
    refine wpTill_op (i := 8) (by kernel_rfl) rfl (fun K hK => ?_)
    go_simp
    refine hK.out _ _ (fun e => by cases e) ?_
    clear hK K
    refine wpTill_done (by kernel_rfl) ?_ _
    have hMF := HM5.out.put (o := k * 2) (u := .int .i64 i) hBl (by omega) hgS (HM5.out.own.setId (by decide) HR.out HX.out i) (HM5.out.good.set k (by show x0.flds.length ≤ 6; omega) ⟨HI.out, HXO.out.n, HXO.out.flds⟩)
    obtain ⟨kS', kR', fR', fS'⟩ := seen _ _ _ _ _ _ hMF
    have HMF := Lib.hid hMF; clear hMF hS5 c05 hfz5 kS kR fR fS
    go_wp2_with fail
    exact fin _ _ _ _ _ _ HMF.out _ rfl
  · go_upto_region 7 with fail
    refine wp_region_till (Cells [(⟨S, 0, none⟩, .slice (some ⟨g, 0, none⟩) n cap), (⟨g, k * 2 + 1, none⟩, .slice ra rn rcap)]) (fun i => decide (21 ≤ i)) (by kernel_rfl) ?_
    have hS : Cells [(⟨S, 0, none⟩, .slice (some ⟨g, 0, none⟩) n cap), (⟨g, k * 2 + 1, none⟩, .slice ra rn rcap)] w3.drew := cells_mk kS (cells_mk c1 (cells_no _))
    have hrb : ∀ b, (Value.slice ra rn rcap).ownBlock = some b → w.heap.size < b := fun b e => by have := (HW.out.lt b e).1; omega
    have hMd := HM.out.below (wy := w3.drew) hBl (Below.refl _ _).drew
    have HMd := Lib.hid hMd; clear hMd c0 c1 hfz
    refine wpTill_take (i := 0) (v := ?v0_50) rfl (by kernel_rfl) (by kernel_rfl) (by kernel_rfl) (by kernel_rfl) (fun _ _ _ h => h) (Or.inl ⟨by rfl, ?y0_50⟩) hS ?r0_50
    case y0_50 => (intro wq hq; (try simp only [cells_cons, cells_nil, and_true] at hq); first | (go_simp; done) | (go_simp; with_reducible rfl) | (obtain ⟨hq1, hq2⟩ := hq; go_simp; with_reducible rfl))
    try simp only [List.getElem_toArray, List.getElem_cons_succ, List.getElem_cons_zero, Act.put, List.setIfInBounds_toArray, List.set_cons_zero, List.set_cons_succ]
    refine wpTill_take (i := 1) (v := ?v1_51) rfl (by kernel_rfl) (by kernel_rfl) (by kernel_rfl) (by kernel_rfl) (fun _ _ _ h => h) (Or.inl ⟨by rfl, ?y1_51⟩) hS ?r1_51
    case y1_51 => (intro wq hq; (try simp only [cells_cons, cells_nil, and_true] at hq); first | (go_simp; done) | (go_simp; with_reducible rfl) | (obtain ⟨hq1, hq2⟩ := hq; go_simp; with_reducible rfl))
    try simp only [List.getElem_toArray, List.getElem_cons_succ, List.getElem_cons_zero, Act.put, List.setIfInBounds_toArray, List.set_cons_zero, List.set_cons_succ]
    refine wpTill_take (i := 2) (v := ?v2_52) rfl (by kernel_rfl) (by kernel_rfl) (by kernel_rfl) (by kernel_rfl) (fun _ _ _ h => h) (Or.inl ⟨by rfl, ?y2_52⟩) hS ?r2_52
    case y2_52 => (intro wq hq; (try simp only [cells_cons, cells_nil, and_true] at hq); first | (go_simp; done) | (go_simp; with_reducible rfl) | (obtain ⟨hq1, hq2⟩ := hq; go_simp; with_reducible rfl))
    try simp only [List.getElem_toArray, List.getElem_cons_succ, List.getElem_cons_zero, Act.put, List.setIfInBounds_toArray, List.set_cons_zero, List.set_cons_succ]
    refine wpTill_take (i := 3) (v := ?v3_53) rfl (by kernel_rfl) (by kernel_rfl) (by kernel_rfl) (by kernel_rfl) (fun _ _ _ h => h) (Or.inl ⟨by rfl, ?y3_53⟩) hS ?r3_53
    case y3_53 => (intro wq hq; (try simp only [cells_cons, cells_nil, and_true] at hq); first | (go_simp; done) | (go_simp; with_reducible rfl) | (obtain ⟨hq1, hq2⟩ := hq; go_simp; with_reducible rfl))
    try simp only [List.getElem_toArray, List.getElem_cons_succ, List.getElem_cons_zero, Act.put, List.setIfInBounds_toArray, List.set_cons_zero, List.set_cons_succ]
    refine wpTill_take (i := 4) (v := ?v4_54) rfl (by kernel_rfl) (by kernel_rfl) (by kernel_rfl) (by kernel_rfl) (fun _ _ _ h => h) (Or.inl ⟨by rfl, ?y4_54⟩) hS ?r4_54
    case y4_54 => (intro wq hq; (try simp only [cells_cons, cells_nil, and_true] at hq); first | (go_simp; done) | (go_simp; with_reducible rfl) | (obtain ⟨hq1, hq2⟩ := hq; go_simp; with_reducible rfl))
    try simp only [List.getElem_toArray, List.getElem_cons_succ, List.getElem_cons_zero, Act.put, List.setIfInBounds_toArray, List.set_cons_zero, List.set_cons_succ]
    refine wpTill_take (i := 5) (v := ?v5_55) rfl (by kernel_rfl) (by kernel_rfl) (by kernel_rfl) (by kernel_rfl) (fun _ _ _ h => h) (Or.inl ⟨by rfl, ?y5_55⟩) hS ?r5_55
    case y5_55 => (intro wq hq; (try simp only [cells_cons, cells_nil, and_true] at hq); first | (go_simp; done) | (go_simp; with_reducible rfl) | (obtain ⟨hq1, hq2⟩ := hq; go_simp; with_reducible rfl))
    try simp only [List.getElem_toArray, List.getElem_cons_succ, List.getElem_cons_zero, Act.put, List.setIfInBounds_toArray, List.set_cons_zero, List.set_cons_succ]
    refine wpTill_take (i := 6) (v := ?v6_56) rfl (by kernel_rfl) (by kernel_rfl) (by kernel_rfl) (by kernel_rfl) (fun _ _ _ h => h) (Or.inl ⟨by rfl, ?y6_56⟩) hS ?r6_56
    case y6_56 => (intro wq hq; (try simp only [cells_cons, cells_nil, and_true] at hq); first | (go_simp; done) | (go_simp; with_reducible rfl) | (obtain ⟨hq1, hq2⟩ := hq; go_simp; with_reducible rfl))
    try simp only [List.getElem_toArray, List.getElem_cons_succ, List.getElem_cons_zero, Act.put, List.setIfInBounds_toArray, List.set_cons_zero, List.set_cons_succ]
    refine wpTill_take (i := 7) (v := ?v7_57) rfl (by kernel_rfl) (by kernel_rfl) (by kernel_rfl) (by kernel_rfl) (fun _ _ _ h => h) (Or.inl ⟨by rfl, ?y7_57⟩) hS ?r7_57
    case y7_57 => (intro wq hq; (try simp only [cells_cons, cells_nil, and_true] at hq); first | (go_simp; done) | (go_simp; with_reducible rfl) | (obtain ⟨hq1, hq2⟩ := hq; go_simp; with_reducible rfl))
    try simp only [List.getElem_toArray, List.getElem_cons_succ, List.getElem_cons_zero, Act.put, List.setIfInBounds_toArray, List.set_cons_zero, List.set_cons_succ]
    refine wpTill_take (i := 8) (v := ?v8_58) rfl (by kernel_rfl) (by kernel_rfl) (by kernel_rfl) (by kernel_rfl) (fun _ _ _ h => h) (Or.inl ⟨by rfl, ?y8_58⟩) hS ?r8_58
    case y8_58 => (intro wq hq; (try simp only [cells_cons, cells_nil, and_true] at hq); first | (go_simp; done) | (go_simp; with_reducible rfl) | (obtain ⟨hq1, hq2⟩ := hq; go_simp; with_reducible rfl))
    try simp only [List.getElem_toArray, List.getElem_cons_succ, List.getElem_cons_zero, Act.put, List.setIfInBounds_toArray, List.set_cons_zero, List.set_cons_succ]
    refine wpTill_take (i := 9) (v := ?v9_59) rfl (by kernel_rfl) (by kernel_rfl) (by kernel_rfl) (by kernel_rfl) (fun _ _ _ h => h) (Or.inl ⟨by rfl, ?y9_59⟩) hS ?r9_59
    case y9_59 => (intro wq hq; (try simp only [cells_cons, cells_nil, and_true] at hq); first | (go_simp; done) | (go_simp; with_reducible rfl) | (obtain ⟨hq1, hq2⟩ := hq; go_simp; with_reducible rfl))
    try simp only [List.getElem_toArray, List.getElem_cons_succ, List.getElem_cons_zero, Act.put, List.setIfInBounds_toArray, List.set_cons_zero, List.set_cons_succ]
    refine wpTill_take (i := 11) (v := ?v11_60) rfl (by kernel_rfl) (by kernel_rfl) (by kernel_rfl) (by kernel_rfl) (fun _ _ _ h => h) (Or.inl ⟨by rfl, ?y11_60⟩) hS ?r11_60
    case y11_60 => (intro wq hq; (try simp only [cells_cons, cells_nil, and_true] at hq); first | (go_simp; done) | (go_simp; with_reducible rfl) | (obtain ⟨hq1, hq2⟩ := hq; go_simp; with_reducible rfl))
    try simp only [List.getElem_toArray, List.getElem_cons_succ, List.getElem_cons_zero, Act.put, List.setIfInBounds_toArray, List.set_cons_zero, List.set_cons_succ]
    refine wpTill_take (i := 13) (v := ?v13_61) rfl (by kernel_rfl) (by kernel_rfl) (by kernel_rfl) (by kernel_rfl) (fun _ _ _ h => h) (Or.inl ⟨by rfl, ?y13_61⟩) hS ?r13_61
    case y13_61 => (intro wq hq; (try simp only [cells_cons, cells_nil, and_true] at hq); first | (go_simp; done) | (go_simp; with_reducible rfl) | (obtain ⟨hq1, hq2⟩ := hq; go_simp; with_reducible rfl))
    try simp only [List.getElem_toArray, List.getElem_cons_succ, List.getElem_cons_zero, Act.put, List.setIfInBounds_toArray, List.set_cons_zero, List.set_cons_succ]
    refine wpTill_op (i := 10) (by kernel_rfl) rfl (fun K hK => ?_)
    go_simp
    refine (l4Number_w B _ HMd.out.up.cur).mono ?_
    rintro r v1 ⟨i1, rfl, hi1, hd1, hp1⟩
    have HM1 := Lib.hid (HMd.out.step hBl hSl hd1 hp1)
    have hS1 := hS.oth hp1 (by intro q hq; simp only [List.mem_cons, List.not_mem_nil, or_false] at hq; rcases hq with rfl | rfl <;> first | exact hSB | exact hgB)
    have HI1 := Lib.hid hi1; clear hi1 hd1 hp1 hS
    refine hK.out _ _ (fun _ => hS1) ?_
    clear hK K HMd
    try simp only [List.getElem_toArray, List.getElem_cons_succ, List.getElem_cons_zero, Act.put, List.setIfInBounds_toArray, List.set_cons_zero, List.set_cons_succ]
    refine wpTill_op (i := 12) (by kernel_rfl) rfl (fun K hK => ?_)
    go_simp
    refine (l1Below_any B 10 _ HM1.out.up.cur (by omega) (by omega)).mono ?_
    rintro r v2 ⟨i2, rfl, hi20, hi21, hd2, hp2⟩
    have HM2 := Lib.hid (HM1.out.step hBl hSl hd2 hp2)
    have hS2 := hS1.oth hp2 (by intro q hq; simp only [List.mem_cons, List.not_mem_nil, or_false] at hq; rcases hq with rfl | rfl <;> first | exact hSB | exact hgB)
    clear hd2 hp2 hS1
    refine hK.out _ _ (fun _ => hS2) ?_
    clear hK K HM1
    try simp only [List.getElem_toArray, List.getElem_cons_succ, List.getElem_cons_zero, Act.put, List.setIfInBounds_toArray, List.set_cons_zero, List.set_cons_succ]
    refine wpTill_op (i := 14) (by kernel_rfl) rfl (fun K hK => ?_)
    go_simp
    refine (l1Below_any B 4 _ HM2.out.up.cur (by omega) (by omega)).mono ?_
    rintro r v3 ⟨i3, rfl, hi30, hi31, hd3, hp3⟩
    have HM3 := Lib.hid (HM2.out.step hBl hSl hd3 hp3)
    have hS3 := hS2.oth hp3 (by intro q hq; simp only [List.mem_cons, List.not_mem_nil, or_false] at hq; rcases hq with rfl | rfl <;> first | exact hSB | exact hgB)
    clear hd3 hp3 hS2
    refine hK.out _ _ (fun _ => hS3) ?_
    clear hK K HM2
    try simp only [List.getElem_toArray, List.getElem_cons_succ, List.getElem_cons_zero, Act.put, List.setIfInBounds_toArray, List.set_cons_zero, List.set_cons_succ]
    have HW3 := Lib.hid ((HM3.out.own.each k _ x0 HR.out HX.out).2.2)
    have hw3 : IntKind.i64.wrap (i3 - 1) = i3 - 1 := by rw [IntKind.wrap_i64]; omega
    refine wpTill_op (i := 15) (by kernel_rfl) rfl (fun K hK => ?_)
    go_simp
    clear hw3
    refine hK.out _ _ (fun _ => hS3) ?_
    clear hK K
    try simp only [List.getElem_toArray, List.getElem_cons_succ, List.getElem_cons_zero, Act.put, List.setIfInBounds_toArray, List.set_cons_zero, List.set_cons_succ]
    refine wpTill_op (i := 16) (by kernel_rfl) rfl (fun K hK => ?_)
    go_simp
    refine hK.out _ _ (fun _ => hS3) ?_
    clear hK K
    try simp only [List.getElem_toArray, List.getElem_cons_succ, List.getElem_cons_zero, Act.put, List.setIfInBounds_toArray, List.set_cons_zero, List.set_cons_succ]
    refine wpTill_op (i := 17) (by kernel_rfl) rfl (fun K hK => ?_)
    go_simp
    refine hK.out _ _ (fun _ => hS3.alloc _) ?_
    clear hK K
    try simp only [List.getElem_toArray, List.getElem_cons_succ, List.getElem_cons_zero, Act.put, List.setIfInBounds_toArray, List.set_cons_zero, List.set_cons_succ]
    have hW : Below v3.heap.size v3 (v3.alloc (.cells #[.int .i64 i1, .int .i64 i2, .bool false, .bool false, .int .i64 (i3 - 1)] 47)) := (Below.refl _ _).alloc (Nat.le_refl _) _
    obtain ⟨W, hWe⟩ : ∃ W : World, W = v3.alloc (.cells #[.int .i64 i1, .int .i64 i2, .bool false, .bool false, .int .i64 (i3 - 1)] 47) := ⟨_, rfl⟩
    have hSW : Cells [(⟨S, 0, none⟩, .slice (some ⟨g, 0, none⟩) n cap), (⟨g, k * 2 + 1, none⟩, .slice ra rn rcap)] W := by rw [hWe]; exact hS3.alloc _
    have HNW := Lib.hid (World.news_of_block (w := W) (cs := #[.int .i64 i1, .int .i64 i2, .bool false, .bool false, .int .i64 (i3 - 1)]) (t := 47) (fr := (0, 0)) (B := v3.heap.size) (by rw [hWe]; exact hset_new rfl))
    rw [← hWe] at hW
    have HMW := Lib.hid (HM3.out.below hBl hW)
    have HOW := Lib.hid ((HMW.out.own.each k _ x0 HR.out HX.out).2.2)
    have hgW : ∀ b, (Value.slice ra rn rcap).ownBlock = some b → b ≠ g := fun b e e' => HMW.out.own.outerNe (by decide) HR.out HX.out e (by rw [e']; rfl)
    have hSW' : ∀ b, (Value.slice ra rn rcap).ownBlock = some b → b ≠ S := fun b e => HMW.out.out HOW.out e (by decide)
    clear hS3 hW HM3 HW3
    refine wpTill_op (i := 18) (by kernel_rfl) rfl (fun K hK => ?_)
    rw [← hWe]
    refine step_append_lies W rfl _ _ 41 rfl (w.heap.size + 1) 47 iF _ 5 32 Try.underlying41 hiF hf0 hf1 hf2 rfl (by decide) (.slice ra rn rcap) rn (x0.flds.flatMap Fld.cs) rfl HOW.out ⟨v3.heap.size, 0, none⟩ 1 1 [.int .i64 i1, .int .i64 i2, .bool false, .bool false, .int .i64 (i3 - 1)] rfl rfl HNW.out (by simp [Value.oneCell']) (by omega) (by have := HN.out; unfold maxLen; omega) (by have := HN.out; omega) (by have := box_lt HMW.out.res; omega) _ rfl ?_
    intro gn capn w11 hown11 hgr11 hat11 hlt11
    have hS11 := hSW.grown hgr11 (by intro q hq e; simp only [List.mem_cons, List.not_mem_nil, or_false] at hq; rcases hq with rfl | rfl <;> first | exact hSW' _ e rfl | exact hgW _ e rfl)
    refine hK.out _ _ (fun _ => hS11) ?_
    clear hK K hSW
    try simp only [List.getElem_toArray, List.getElem_cons_succ, List.getElem_cons_zero, Act.put, List.setIfInBounds_toArray, List.set_cons_zero, List.set_cons_succ]
    have hO11 := HMW.out.own.outerKept (by decide) HR.out HX.out hgr11
    have hfz : ∀ j, w11.frozen? ⟨g, j, none⟩ = false := hO11.frozenAt
    have hrowc : w11.cell? ⟨g, k * 2 + 1, none⟩ = some (.slice ra rn rcap) := hS11 (⟨g, k * 2 + 1, none⟩, _) (by simp)
    clear hO11
    refine wpTill_op (i := 19) (by kernel_rfl) rfl (fun K hK => ?_)
    go_simp
    refine hK.out _ _ (fun _ => hS11) ?_
    clear hK K
    try simp only [List.getElem_toArray, List.getElem_cons_succ, List.getElem_cons_zero, Act.put, List.setIfInBounds_toArray, List.set_cons_zero, List.set_cons_succ]
    refine wpTill_op (i := 20) (by kernel_rfl) rfl (fun K hK => ?_)
    go_simp
    refine hK.out _ _ (fun _ => hS11) ?_
    clear hK K
    try simp only [List.getElem_toArray, List.getElem_cons_succ, List.getElem_cons_zero, Act.put, List.setIfInBounds_toArray, List.set_cons_zero, List.set_cons_succ]
    refine wpTill_op (i := 21) (by kernel_rfl) rfl (fun K hK => ?_)
    go_simp
    refine hK.out _ _ (fun e => by cases e) ?_
    clear hK K
    refine wpTill_done (by kernel_rfl) ?_ _
    have hOF := HMW.out.own.growAt (by decide) HR.out HX.out hgr11 (a' := some ⟨gn, 0, none⟩) (m' := rn + 1) (cap' := capn) (fs := x0.flds ++ [⟨i1, i2, false, false, i3 - 1⟩]) (by simp [HN.out]) (by simpa [List.flatMap_append, Fld.cs] using hown11) (fun b e => by have e' : gn = b := Option.some.inj e; subst e'; exact hat11.imp id (fun e => Nat.le_of_eq e.symm))
    have hbF : Below (w.heap.size + 1) W (w11.setCell ⟨g, k * 2 + 1, none⟩ (.slice (some ⟨gn, 0, none⟩) (rn + 1) capn)) := (below_grown (Below.refl _ _) hgr11 (fun b e => by have := hrb b e; omega) (by have := box_lt HMW.out.res; omega)).setCell (by simp; omega) _
    have hMF : Mid8 w B S (some ⟨g, 0, none⟩) n cap _ _ (w11.setCell ⟨g, k * 2 + 1, none⟩ (.slice (some ⟨gn, 0, none⟩) (rn + 1) capn)) := ⟨hOF, HMW.out.good.set k (by simp; omega) ⟨HXO.out.id, by simp; unfold maxLen; omega, fun f hf => by
        rcases List.mem_append.1 hf with hf | hf
        · exact HXO.out.flds f hf
        · simp at hf; subst hf; exact ⟨HI1.out, w64_of (by simp only; omega) (by simp only; omega), w64_of (by simp only; omega) (by simp only; omega)⟩⟩,
      (hbF.block _ (by omega)).trans HMW.out.res, hset_other ((hgr11.block S (box_lt HMW.out.box) (fun e => hSW' S e.symm rfl)).trans HMW.out.box) (by simpa using Ne.symm hgS), HMW.out.up.below hBl hbF (by omega)⟩
    obtain ⟨kS', kR', fR', fS'⟩ := seen _ _ _ _ _ _ hMF
    have HMF := Lib.hid hMF; clear hMF hS11 hrowc hfz kS kR fR fS hOF hbF hown11 hgr11
    go_wp2_with fail
    exact fin _ _ _ _ _ _ HMF.out _ rfl
  · have hrn0 : rn = 0 ∨ 0 < rn := by omega
    rcases hrn0 with rfl | h0
    · go_wp2_with fail
      exact fin _ _ _ _ _ _ HM.out _ rfl
    · obtain ⟨rb, cap1, e1, hrb, hrbl⟩ := HW.out.form h0
      simp only [Value.slice.injEq, true_and] at e1
      obtain ⟨rfl, rfl⟩ := e1
      have hn0 : (0 : Int) < (rn : Int) := by omega
      go_upto_region 10 with fail
      refine wp_region_till (Cells [(⟨S, 0, none⟩, .slice (some ⟨g, 0, none⟩) n cap), (⟨g, k * 2 + 1, none⟩, .slice (some ⟨rb, 0, none⟩) rn rcap)]) (fun i => decide (11 ≤ i)) (by kernel_rfl) ?_
      have hS : Cells [(⟨S, 0, none⟩, .slice (some ⟨g, 0, none⟩) n cap), (⟨g, k * 2 + 1, none⟩, .slice (some ⟨rb, 0, none⟩) rn rcap)] w3.drew := cells_mk kS (cells_mk c1 (cells_no _))
      have HMd := Lib.hid (HM.out.below (wy := w3.drew) hBl (Below.refl _ _).drew)
      clear c0 c1 hfz
      refine wpTill_take (i := 0) (v := ?v0_62) rfl (by kernel_rfl) (by kernel_rfl) (by kernel_rfl) (by kernel_rfl) (fun _ _ _ h => h) (Or.inl ⟨by rfl, ?y0_62⟩) hS ?r0_62
      case y0_62 => (intro wq hq; (try simp only [cells_cons, cells_nil, and_true] at hq); first | (go_simp; done) | (go_simp; with_reducible rfl) | (obtain ⟨hq1, hq2⟩ := hq; go_simp; with_reducible rfl))
      try simp only [List.getElem_toArray, List.getElem_cons_succ, List.getElem_cons_zero, Act.put, List.setIfInBounds_toArray, List.set_cons_zero, List.set_cons_succ]
      refine wpTill_take (i := 1) (v := ?v1_63) rfl (by kernel_rfl) (by kernel_rfl) (by kernel_rfl) (by kernel_rfl) (fun _ _ _ h => h) (Or.inl ⟨by rfl, ?y1_63⟩) hS ?r1_63
      case y1_63 => (intro wq hq; (try simp only [cells_cons, cells_nil, and_true] at hq); first | (go_simp; done) | (go_simp; with_reducible rfl) | (obtain ⟨hq1, hq2⟩ := hq; go_simp; with_reducible rfl))
      try simp only [List.getElem_toArray, List.getElem_cons_succ, List.getElem_cons_zero, Act.put, List.setIfInBounds_toArray, List.set_cons_zero, List.set_cons_succ]
      refine wpTill_take (i := 2) (v := ?v2_64) rfl (by kernel_rfl) (by kernel_rfl) (by kernel_rfl) (by kernel_rfl) (fun _ _ _ h => h) (Or.inl ⟨by rfl, ?y2_64⟩) hS ?r2_64
      case y2_64 => (intro wq hq; (try simp only [cells_cons, cells_nil, and_true] at hq); first | (go_simp; done) | (go_simp; with_reducible rfl) | (obtain ⟨hq1, hq2⟩ := hq; go_simp; with_reducible rfl))
      try simp only [List.getElem_toArray, List.getElem_cons_succ, List.getElem_cons_zero, Act.put, List.setIfInBounds_toArray, List.set_cons_zero, List.set_cons_succ]
      refine wpTill_take (i := 3) (v := ?v3_65) rfl (by kernel_rfl) (by kernel_rfl) (by kernel_rfl) (by kernel_rfl) (fun _ _ _ h => h) (Or.inl ⟨by rfl, ?y3_65⟩) hS ?r3_65
      case y3_65 => (intro wq hq; (try simp only [cells_cons, cells_nil, and_true] at hq); first | (go_simp; done) | (go_simp; with_reducible rfl) | (obtain ⟨hq1, hq2⟩ := hq; go_simp; with_reducible rfl))
      try simp only [List.getElem_toArray, List.getElem_cons_succ, List.getElem_cons_zero, Act.put, List.setIfInBounds_toArray, List.set_cons_zero, List.set_cons_succ]
      refine wpTill_take (i := 4) (v := ?v4_66) rfl (by kernel_rfl) (by kernel_rfl) (by kernel_rfl) (by kernel_rfl) (fun _ _ _ h => h) (Or.inl ⟨by rfl, ?y4_66⟩) hS ?r4_66
      case y4_66 => (intro wq hq; (try simp only [cells_cons, cells_nil, and_true] at hq); first | (go_simp; done) | (go_simp; with_reducible rfl) | (obtain ⟨hq1, hq2⟩ := hq; go_simp; with_reducible rfl))
      try simp only [List.getElem_toArray, List.getElem_cons_succ, List.getElem_cons_zero, Act.put, List.setIfInBounds_toArray, List.set_cons_zero, List.set_cons_succ]
      refine wpTill_take (i := 5) (v := ?v5_67) rfl (by kernel_rfl) (by kernel_rfl) (by kernel_rfl) (by kernel_rfl) (fun _ _ _ h => h) (Or.inl ⟨by rfl, ?y5_67⟩) hS ?r5_67
      case y5_67 => (intro wq hq; (try simp only [cells_cons, cells_nil, and_true] at hq); first | (go_simp; done) | (go_simp; with_reducible rfl) | (obtain ⟨hq1, hq2⟩ := hq; go_simp; with_reducible rfl))
      try simp only [List.getElem_toArray, List.getElem_cons_succ, List.getElem_cons_zero, Act.put, List.setIfInBounds_toArray, List.set_cons_zero, List.set_cons_succ]
      refine wpTill_take (i := 6) (v := ?v6_68) rfl (by kernel_rfl) (by kernel_rfl) (by kernel_rfl) (by kernel_rfl) (fun _ _ _ h => h) (Or.inl ⟨by rfl, ?y6_68⟩) hS ?r6_68
      case y6_68 => (intro wq hq; (try simp only [cells_cons, cells_nil, and_true] at hq); first | (go_simp; done) | (go_simp; with_reducible rfl) | (obtain ⟨hq1, hq2⟩ := hq; go_simp; with_reducible rfl))
      try simp only [List.getElem_toArray, List.getElem_cons_succ, List.getElem_cons_zero, Act.put, List.setIfInBounds_toArray, List.set_cons_zero, List.set_cons_succ]
      refine wpTill_op (i := 7) (by kernel_rfl) rfl (fun K hK => ?_)
      go_simp
      refine (l1Below_any B 5 _ HMd.out.up.cur (by omega) (by omega)).mono ?_
      rintro r v3 ⟨i3, rfl, hi30, hi31, hd3, hp3⟩
      have HM3 := Lib.hid (HMd.out.step hBl hSl hd3 hp3)
      have hS3 := hS.oth hp3 (by intro q hq; simp only [List.mem_cons, List.not_mem_nil, or_false] at hq; rcases hq with rfl | rfl <;> first | exact hSB | exact hgB)
      clear hd3 hp3 hS
      refine hK.out _ _ (fun _ => hS3) ?_
      clear hK K HMd
      try simp only [List.getElem_toArray, List.getElem_cons_succ, List.getElem_cons_zero, Act.put, List.setIfInBounds_toArray, List.set_cons_zero, List.set_cons_succ]
      have HW3 : Hid (v3.ownsRow (w.heap.size + 1) 47 5 (.slice (some ⟨rb, 0, none⟩) rn rcap) rn (x0.flds.flatMap Fld.cs)) := Lib.hid ((HM3.out.own.each k _ x0 HR.out HX.out).2.2)
      have hw3 : IntKind.i64.wrap (i3 - 1) = i3 - 1 := by rw [IntKind.wrap_i64]; omega
      refine wpTill_op (i := 8) (by kernel_rfl) rfl (fun K hK => ?_)
      go_simp
      clear hw3
      refine hK.out _ _ (fun _ => hS3) ?_
      clear hK K
      try simp only [List.getElem_toArray, List.getElem_cons_succ, List.getElem_cons_zero, Act.put, List.setIfInBounds_toArray, List.set_cons_zero, List.set_cons_succ]
      obtain ⟨u4, d4⟩ := owns_some HW3.out 4 (by omega)
      have hfr : ∀ j, v3.frozen? ⟨rb, j, none⟩ = false := HW3.out.frozenAt
      refine wpTill_op (i := 9) (by kernel_rfl) rfl (fun K hK => ?_)
      go_simp
      refine hK.out _ _ (fun _ => hS3) ?_
      clear hK K
      try simp only [List.getElem_toArray, List.getElem_cons_succ, List.getElem_cons_zero, Act.put, List.setIfInBounds_toArray, List.set_cons_zero, List.set_cons_succ]
      refine wpTill_op (i := 10) (by kernel_rfl) rfl (fun K hK => ?_)
      go_simp
      refine hK.out _ _ (fun _ => hS3) ?_
      clear hK K
      try simp only [List.getElem_toArray, List.getElem_cons_succ, List.getElem_cons_zero, Act.put, List.setIfInBounds_toArray, List.set_cons_zero, List.set_cons_succ]
      refine wpTill_op (i := 11) (by kernel_rfl) rfl (fun K hK => ?_)
      go_simp
      refine hK.out _ _ (fun e => by cases e) ?_
      clear hK K
      refine wpTill_done (by kernel_rfl) ?_ _
      obtain ⟨f0, fs0, hfs0⟩ : ∃ f0 fs0, x0.flds = f0 :: fs0 := by
        have := HN.out
        cases h : x0.flds with
        | nil => rw [h] at this; simp at this; omega
        | cons f fs => exact ⟨f, fs, rfl⟩
      have hst := HW3.out.stored 4 (.int .i64 (i3 - 1))
      have hMF := HM3.out.put (g := rb) (o := 4) (u := .int .i64 (i3 - 1)) hBl (by have := (HW3.out.lt rb rfl).1; omega) (HM3.out.out HW3.out rfl (by decide)) (HM3.out.own.row (by decide) HR.out HX.out hst.2 (fs := ⟨f0.number, f0.kind, f0.rep, f0.packed, i3 - 1⟩ :: fs0) (by rw [← HN.out.symm, hfs0]; rfl) (by have := hst.1; rw [hfs0] at this; exact this)) (HM3.out.good.set k (by have := hx5; rw [hfs0] at this; simp at this ⊢; omega) ⟨HXO.out.id, by have := HXO.out.n; rw [hfs0] at this; simpa using this, by
        have := HXO.out.flds
        rw [hfs0] at this
        intro f hf
        rcases List.mem_cons.1 hf with rfl | hf
        · exact ⟨(this f0 (List.mem_cons_self ..)).number, (this f0 (List.mem_cons_self ..)).kind, w64_of (by simp only; omega) (by simp only; omega)⟩
        · exact this f (List.mem_cons_of_mem _ hf)⟩)
      clear hst hfs0
      obtain ⟨kS', kR', fR', fS'⟩ := seen _ _ _ _ _ _ hMF
      have HMF := Lib.hid hMF; clear hMF hS3 d4 hfr kS kR fR fS
      go_wp2_with fail
      exact fin _ _ _ _ _ _ HMF.out _ rfl
  · have hrn0 : rn = 0 ∨ 0 < rn := by omega
    rcases hrn0 with rfl | h0
    · go_wp2_with fail
      exact fin _ _ _ _ _ _ HM.out _ rfl
    · obtain ⟨rb, cap1, e1, hrb, hrbl⟩ := HW.out.form h0
      simp only [Value.slice.injEq, true_and] at e1
      obtain ⟨rfl, rfl⟩ := e1
      obtain ⟨u3, d3⟩ := owns_some HW.out 3 (by omega)
      have hfr : ∀ j, w3.frozen? ⟨rb, j, none⟩ = false := HW.out.frozenAt
      have hn0 : (0 : Int) < (rn : Int) := by omega
      go_wp2_with fail
      obtain ⟨f0, fs0, hfs0⟩ : ∃ f0 fs0, x0.flds = f0 :: fs0 := by
        have := HN.out
        cases h : x0.flds with
        | nil => rw [h] at this; simp at this; omega
        | cons f fs => exact ⟨f, fs, rfl⟩
      have hst := HW.out.stored 3 (.bool true)
      have hMF := HM.out.put (g := rb) (o := 3) (u := .bool true) hBl (by have := (HW.out.lt rb rfl).1; omega) (HM.out.out HW.out rfl (by decide)) (HM.out.own.row (by decide) HR.out HX.out hst.2 (fs := ⟨f0.number, f0.kind, f0.rep, true, f0.msg⟩ :: fs0) (by rw [← HN.out.symm, hfs0]; rfl) (by have := hst.1; rw [hfs0] at this; exact this)) (HM.out.good.set k (by have := hx5; rw [hfs0] at this; simp at this ⊢; omega) ⟨HXO.out.id, by have := HXO.out.n; rw [hfs0] at this; simpa using this, by
        have := HXO.out.flds
        rw [hfs0] at this
        intro f hf
        rcases List.mem_cons.1 hf with rfl | hf
        · exact ⟨(this f0 (List.mem_cons_self ..)).number, (this f0 (List.mem_cons_self ..)).kind, (this f0 (List.mem_cons_self ..)).msg⟩
        · exact this f (List.mem_cons_of_mem _ hf)⟩)
      exact fin _ _ _ _ _ _ hMF _ rfl
  · clear kS kR fR fS c0 c1 hfz HR HX HW HN HXO hgS hgB
    go_wp2_with fail
    go_loopw [] (fun wr => ∃ (a : Option Addr) (n cap : Nat) (rs : List ShR) (xs : List Shp), Mid8 w B S a n cap rs xs wr ∧ n ≤ 7) (fun wr => msr8 S wr)
    case atStart => exact ⟨_, _, _, _, _, HM.out, by omega⟩
    case round =>
      obtain ⟨a, m, cp, rs, xs, hM, hm7⟩ := hrel
      obtain ⟨wq, hwq⟩ : ∃ wq : World, wq = wr := ⟨_, rfl⟩
      subst hwq
      have hmeas := hM.msr
      obtain ⟨kS, kR, fR, fS⟩ := seen _ _ _ _ _ _ hM
      have HM := Lib.hid hM; have HMS := Lib.hid hmeas; clear hM hmeas
      go_upto_region 15 with fail
      refine wp_region_till (Cells [(⟨S, 0, none⟩, .slice a m cp)]) (fun _ => false) (by kernel_rfl) ?_
      have hS : Cells [(⟨S, 0, none⟩, .slice a m cp)] wq.drew := cells_mk kS (cells_no _)
      have HMd := Lib.hid (HM.out.below (wy := wq.drew) hBl (Below.refl _ _).drew)
      refine wpTill_take (i := 0) (v := ?v0_69) rfl (by kernel_rfl) (by kernel_rfl) (by kernel_rfl) (by kernel_rfl) (fun _ _ _ h => h) (Or.inl ⟨by rfl, ?y0_69⟩) hS ?r0_69
      case y0_69 => (intro wq hq; (try simp only [cells_cons, cells_nil, and_true] at hq); first | (go_simp; done) | (go_simp; with_reducible rfl) | (obtain ⟨hq1, hq2⟩ := hq; go_simp; with_reducible rfl))
      try simp only [List.getElem_toArray, List.getElem_cons_succ, List.getElem_cons_zero, Act.put, List.setIfInBounds_toArray, List.set_cons_zero, List.set_cons_succ]
      refine wpTill_take (i := 1) (v := ?v1_70) rfl (by kernel_rfl) (by kernel_rfl) (by kernel_rfl) (by kernel_rfl) (fun _ _ _ h => h) (Or.inl ⟨by rfl, ?y1_70⟩) hS ?r1_70
      case y1_70 => (intro wq hq; (try simp only [cells_cons, cells_nil, and_true] at hq); first | (go_simp; done) | (go_simp; with_reducible rfl) | (obtain ⟨hq1, hq2⟩ := hq; go_simp; with_reducible rfl))
      try simp only [List.getElem_toArray, List.getElem_cons_succ, List.getElem_cons_zero, Act.put, List.setIfInBounds_toArray, List.set_cons_zero, List.set_cons_succ]
      refine wpTill_take (i := 2) (v := ?v2_71) rfl (by kernel_rfl) (by kernel_rfl) (by kernel_rfl) (by kernel_rfl) (fun _ _ _ h => h) (Or.inl ⟨by rfl, ?y2_71⟩) hS ?r2_71
      case y2_71 => (intro wq hq; (try simp only [cells_cons, cells_nil, and_true] at hq); first | (go_simp; done) | (go_simp; with_reducible rfl) | (obtain ⟨hq1, hq2⟩ := hq; go_simp; with_reducible rfl))
      try simp only [List.getElem_toArray, List.getElem_cons_succ, List.getElem_cons_zero, Act.put, List.setIfInBounds_toArray, List.set_cons_zero, List.set_cons_succ]
      refine wpTill_take (i := 3) (v := ?v3_72) rfl (by kernel_rfl) (by kernel_rfl) (by kernel_rfl) (by kernel_rfl) (fun _ _ _ h => h) (Or.inl ⟨by rfl, ?y3_72⟩) hS ?r3_72
      case y3_72 => (intro wq hq; (try simp only [cells_cons, cells_nil, and_true] at hq); first | (go_simp; done) | (go_simp; with_reducible rfl) | (obtain ⟨hq1, hq2⟩ := hq; go_simp; with_reducible rfl))
      try simp only [List.getElem_toArray, List.getElem_cons_succ, List.getElem_cons_zero, Act.put, List.setIfInBounds_toArray, List.set_cons_zero, List.set_cons_succ]
      refine wpTill_op (i := 4) (by kernel_rfl) rfl (fun K hK => ?_)
      go_simp
      refine (l1Below_any B 2 _ HMd.out.up.cur (by omega) (by omega)).mono ?_
      rintro r v3 ⟨i3, rfl, hi30, hi31, hd3, hp3⟩
      have HM3 := Lib.hid (HMd.out.step hBl hSl hd3 hp3)
      have hS3 := hS.oth hp3 (by intro q hq; simp only [List.mem_cons, List.not_mem_nil, or_false] at hq; subst hq; exact hSB)
      clear hd3 hp3 hS
      refine hK.out _ _ (fun _ => hS3) ?_
      clear hK K HMd
      try simp only [List.getElem_toArray, List.getElem_cons_succ, List.getElem_cons_zero, Act.put, List.setIfInBounds_toArray, List.set_cons_zero, List.set_cons_succ]
      have hw6 : IntKind.i64.wrap (6 + i3) = 6 + i3 := by rw [IntKind.wrap_i64]; omega
      refine wpTill_op (i := 5) (by kernel_rfl) rfl (fun K hK => ?_)
      go_simp
      clear hw6
      refine hK.out _ _ (fun _ => hS3) ?_
      clear hK K
      try simp only [List.getElem_toArray, List.getElem_cons_succ, List.getElem_cons_zero, Act.put, List.setIfInBounds_toArray, List.set_cons_zero, List.set_cons_succ]
      refine wpTill_op (i := 6) (by kernel_rfl) rfl (fun K hK => ?_)
      go_simp
      refine hK.out _ _ (fun _ => hS3) ?_
      clear hK K
      refine wpTill_done (by kernel_rfl) ?_ _
      obtain ⟨kS', kR', fR', fS'⟩ := seen _ _ _ _ _ _ HM3.out
      clear kS kR fR fS hS3 HM
      cases hd : decide ((m : Int) < 6 + i3)
      · go_wp2_with fail
        exact fin _ _ _ _ _ _ HM3.out _ rfl
      · have hlt := of_decide_eq_true hd
        have HA := Lib.hid (HM3.out.below (wy := v3.alloc (.cells #[.int .i64 (91 + m), .slice none 0 0] 43)) hBl ((Below.refl _ _).alloc (Nat.le_refl _) _))
        go_wp2_with (first | (at_builtin; refine wpList_append_lies _ rfl _ _ 28 rfl (w.heap.size + 1) 43 iS _ 2 32 Try.underlying28 hiS hs0 hs1 hs2 rfl (by decide) _ m (rs.flatMap ShR.cs) rfl HA.out.own.outer ⟨v3.heap.size, 0, none⟩ 1 1 [.int .i64 (91 + m), .slice none 0 0] rfl rfl (World.news_of_block (cs := #[.int .i64 (91 + m), .slice none 0 0]) (t := 43) (fr := (0, 0)) (hset_new rfl)) (by simp [Value.oneCell']) (by omega) (by unfold maxLen; omega) (by omega) (by have := box_lt HA.out.res; omega) _ rfl ?_; intro gn capn w11 hown11 hgr11 hat11 hlt11; have hMF := HA.out.push hBl hSl (by omega) (w64_of (u := 91 + m) (by omega) (by omega)) hown11 hgr11; have hS11 := HA.out.boxAt hgr11; have kS2 := box_cells hS11 0; have fS2 := box_frozen hS11; have HMF2 := Lib.hid hMF; clear hMF hS11 hown11 hgr11 hat11 kS' kR' fR' fS'))
        have hme := HMF2.out.msr
        go_roundw
        case rel => exact ⟨_, _, _, _, _, HMF2.out, by omega⟩
        case measure => rw [hme, HMS.out]; omega
  · have y0 : (y == 0) = false := by simp; omega
    have y1 : (y == 1) = false := by simp; omega
    have y2 : (y == 2) = false := by simp; omega
    have y3 : (y == 3) = false := by simp; omega
    have y4 : (y == 4) = false := by simp; omega
    go_wp2_with fail
    exact fin _ _ _ _ _ _ HM.out _ rfl
end Go.Proofs.Ytbpilecgnfnndaa
namespace Go.Proofs.Ytbpilecgnfnndaa
set_option linter.unusedSimpArgs false
set_option linter.unusedVariables false
open Go.ChangeShapes Go.WideShapes Go.ChangeAt Go.RowKit Go.BigFrame
def sameF (f g : Fld) : Bool := decide (f = g)
theorem run_neq_fld (a b e a' b' e' : Int) (p q p' q' : Bool) (w : World) :
    (binOp .neq 47 (.agg #[.int .i64 a, .int .i64 b, .bool p, .bool q, .int .i64 e]) (.agg #[.int .i64 a', .int .i64 b', .bool p', .bool q', .int .i64 e'])).run Try.prog w = .ok (.bool (!sameF ⟨a, b, p, q, e⟩ ⟨a', b', p', q', e'⟩)) w := by
  simp [go_sem, sameF]
  by_cases h1 : a = a' <;> by_cases h2 : b = b' <;> by_cases h3 : p = p' <;> by_cases h4 : q = q' <;> by_cases h5 : e = e' <;> simp [h1, h2, h3, h4, h5]
theorem ne_of_at {α : Type} [DecidableEq α] {xs ys : List α} {k : Nat} {e f : α} (he : xs[k]? = some e) (hf : ys[k]? = some f) (h : ¬ e = f) : decide (xs = ys) = false := by
  simp only [decide_eq_false_iff_not]; rintro rfl; rw [he] at hf; simp at hf; exact h hf
theorem take_same {α : Type} {xs ys : List α} {k : Nat} {e : α} (h : xs.take k = ys.take k) (he : xs[k]? = some e) (hf : ys[k]? = some e) : xs.take (k + 1) = ys.take (k + 1) := by
  rw [List.take_add_one, List.take_add_one, h, he, hf]
theorem take_end {α : Type} [DecidableEq α] {xs ys : List α} {k : Nat} (h : xs.take k = ys.take k) (h1 : xs.length ≤ k) (h2 : ys.length ≤ k) : decide (xs = ys) = true := by
  rw [List.take_of_length_le h1, List.take_of_length_le h2] at h; simp [h]
set_option maxHeartbeats 2000000 in
theorem slicesEqualFld_any (a a' : Option Addr) (cap cap' n n' : Nat) (xs ys : List Fld) (w : World) (h : Flds w a xs) (h' : Flds w a' ys) (hx : xs.length = n) (hy : ys.length = n') (hn : n ≤ 1048576) (hn' : n' ≤ 1048576) :
    Calls Try.prog 52 #[.slice a n cap, .slice a' n' cap'] w fun r w' => r = .returned (.bool (decide (xs = ys))) ∧ Below w.heap.size w w' := by
  have HX := Lib.hid hx; clear hx
  have HY := Lib.hid hy; clear hy
  by_cases hl : n = n'
  · subst hl
    go_enter Try.func52, Try.ntmps52
    go_wp2
    go_loopw [4, 5, 13] (fun t i j wr => ∃ k : Nat, k ≤ n ∧ j = .int .i64 k ∧ t = .bool false ∧ Hid (xs.take k = ys.take k) ∧ Below w.heap.size w wr) (fun _ _ i _ => n - (intOf i).toNat)
    case atStart => exact ⟨0, Nat.zero_le _, rfl, rfl, Lib.hid rfl, Below.refl _ _⟩
    case round =>
      obtain ⟨k, hk, rfl, rfl, HT, hb⟩ := hrel
      have hz := hb.size
      by_cases hlt : k < n
      · obtain ⟨e, he, _⟩ := at_lt (xs := xs) (k := k) (by rw [HX.out]; exact hlt)
        obtain ⟨f, hf, _⟩ := at_lt (xs := ys) (k := k) (by rw [HY.out]; exact hlt)
        have HE := Lib.hid he
        have HF := Lib.hid hf
        obtain ⟨b, off, rfl, hlb, c0, c1, c2, c3, c4⟩ := Flds.at (h.below hb (Nat.le_refl _)) he
        obtain ⟨b', off', rfl, hlb', d0, d1, d2, d3, d4⟩ := Flds.at (h'.below hb (Nat.le_refl _)) hf
        clear he hf
        by_cases hef : e = f
        · have hd : sameF e f = true := by simp [sameF, hef]
          have HD := Lib.hid hef; clear hef
          have HT2 := Lib.hid (take_same HT.out HE.out (by rw [HD.out]; exact HF.out))
          have hne := run_neq_fld
          go_wp2_with fail
          (refine wp_region_ext (by kernel_rfl) (by kernel_rfl) ?_; (repeat (go_big_quiet_step (fail))); refine wpQuiet_nil ?_; intro w1 hb1; obtain ⟨hc1, hf1⟩ := bcell hb1; have hz1 := hb1.size; (try simp only [World.size_alloc, World.size_setCell, World.size_drew] at hz1))
          go_wp2
          go_roundw
          case rel => exact ⟨k + 1, by omega, by go_num, rfl, HT2, by ((repeat (first | (with_reducible exact Below.refl _ _) | (with_reducible assumption) | (with_reducible refine Below.alloc ?_ ?_ _) | (with_reducible refine Below.setCell ?_ ?_ _) | (with_reducible refine Below.drew ?_) | (with_reducible refine below_setRow ?_ ?_ _) | (refine Below.trans ?_ (Below.mono (by assumption) ?_)))); all_goals (first | omega | (simp; done) | (simp; omega)))⟩
          case measure => simp [intOf]; omega
        · have hd : sameF e f = false := by simp [sameF, hef]
          have HS := Lib.hid (ne_of_at HE.out HF.out hef)
          clear hef
          have hne := run_neq_fld
          go_wp2_with fail
          (refine wp_region_ext (by kernel_rfl) (by kernel_rfl) ?_; (repeat (go_big_quiet_step (fail))); refine wpQuiet_nil ?_; intro w1 hb1; obtain ⟨hc1, hf1⟩ := bcell hb1; have hz1 := hb1.size; (try simp only [World.size_alloc, World.size_setCell, World.size_drew] at hz1))
          go_wp2
          go_ret
          exact ⟨ret_bool HS.out.symm, by ((repeat (first | (with_reducible exact Below.refl _ _) | (with_reducible assumption) | (with_reducible refine Below.alloc ?_ ?_ _) | (with_reducible refine Below.setCell ?_ ?_ _) | (with_reducible refine Below.drew ?_) | (with_reducible refine below_setRow ?_ ?_ _) | (refine Below.trans ?_ (Below.mono (by assumption) ?_)))); all_goals (first | omega | (simp; done) | (simp; omega)))⟩
      · have HS := Lib.hid (take_end HT.out (by rw [HX.out]; omega) (by rw [HY.out]; omega))
        go_wp2
        go_ret
        exact ⟨ret_bool HS.out.symm, hb⟩
  · have HS := Lib.hid (show decide (xs = ys) = false by
      simp only [decide_eq_false_iff_not]; intro hxy; subst hxy; exact hl (HX.out.symm.trans HY.out))
    have hl' : ((n : Int) != (n' : Int)) = true := by simp; omega
    go_enter Try.func52, Try.ntmps52
    go_wp2
    go_ret
    exact ⟨ret_bool HS.out.symm, Below.refl _ _⟩
set_option maxHeartbeats 2000000 in
theorem sameSchema1_any (x y : Int) (fs gs : List Fld) (a a' : Option Addr) (n n' cap cap' : Nat) (w : World) (h : Flds w a fs) (h' : Flds w a' gs) (hx : fs.length = n) (hy : gs.length = n') (hn : n ≤ 1048576) (hn' : n' ≤ 1048576) :
    Calls Try.prog 51 #[.agg #[.int .i64 x, .slice a n cap], .agg #[.int .i64 y, .slice a' n' cap']] w fun r w' => r = .returned (.bool (x == y && decide (fs = gs))) ∧ Below w.heap.size w w' := by
  have HX := Lib.hid hx; clear hx
  have HY := Lib.hid hy; clear hy
  have HS1 := Lib.hid h; clear h
  have HS2 := Lib.hid h'; clear h'
  obtain ⟨q, hq⟩ : ∃ q, decide (fs = gs) = q := ⟨_, rfl⟩
  rw [hq]
  have HQ := Lib.hid hq; clear hq
  by_cases hxy : x = y
  · subst hxy
    go_enter Try.func51, Try.ntmps51
    go_wp2_with fail
    refine (slicesEqualFld_any _ _ _ _ _ _ fs gs _ (Sl.keep HS1.out (by ((repeat (first | (with_reducible exact Below.refl _ _) | (with_reducible assumption) | (with_reducible refine Below.alloc ?_ ?_ _) | (with_reducible refine Below.setCell ?_ ?_ _) | (with_reducible refine Below.drew ?_) | (with_reducible refine below_setRow ?_ ?_ _) | (refine Below.trans ?_ (Below.mono (by assumption) ?_)))); all_goals (first | omega | (simp; done) | (simp; omega))))) (Sl.keep HS2.out (by ((repeat (first | (with_reducible exact Below.refl _ _) | (with_reducible assumption) | (with_reducible refine Below.alloc ?_ ?_ _) | (with_reducible refine Below.setCell ?_ ?_ _) | (with_reducible refine Below.drew ?_) | (with_reducible refine below_setRow ?_ ?_ _) | (refine Below.trans ?_ (Below.mono (by assumption) ?_)))); all_goals (first | omega | (simp; done) | (simp; omega))))) HX.out HY.out hn hn').mono ?_
    rintro r w1 ⟨rfl, hb1⟩
    rw [HQ.out]
    go_wp2
    go_ret
    exact ⟨ret_bool (by simp), by ((repeat (first | (with_reducible exact Below.refl _ _) | (with_reducible assumption) | (with_reducible refine Below.alloc ?_ ?_ _) | (with_reducible refine Below.setCell ?_ ?_ _) | (with_reducible refine Below.drew ?_) | (with_reducible refine below_setRow ?_ ?_ _) | (refine Below.trans ?_ (Below.mono (by assumption) ?_)))); all_goals (first | omega | (simp; done) | (simp; omega)))⟩
  · have hxy' : (x == y) = false := by simp [hxy]
    clear hxy
    go_enter Try.func51, Try.ntmps51
    go_wp2
    go_ret
    exact ⟨ret_bool (by simp [hxy']), by ((repeat (first | (with_reducible exact Below.refl _ _) | (with_reducible assumption) | (with_reducible refine Below.alloc ?_ ?_ _) | (with_reducible refine Below.setCell ?_ ?_ _) | (with_reducible refine Below.drew ?_) | (with_reducible refine below_setRow ?_ ?_ _) | (refine Below.trans ?_ (Below.mono (by assumption) ?_)))); all_goals (first | omega | (simp; done) | (simp; omega)))⟩
theorem shp_eq (e f : Shp) : (e.id == f.id && decide (e.flds = f.flds)) = decide (e = f) := by
  obtain ⟨i, x⟩ := e; obtain ⟨j, y⟩ := f
  rw [Bool.eq_iff_iff]; simp
set_option maxHeartbeats 2000000 in
theorem equalFuncShp_any (a a' : Option Addr) (cap cap' n n' : Nat) (xs ys : List Shp) (w : World) (h : Shs w a xs) (h' : Shs w a' ys) (hx : xs.length = n) (hy : ys.length = n') (hn : n ≤ 1048576) (hn' : n' ≤ 1048576) (hm : fldSum xs ≤ 1048576) (hm' : fldSum ys ≤ 1048576) :
    Calls Try.prog 50 #[.slice a n cap, .slice a' n' cap', .func (.func 51) #[] #[]] w fun r w' => r = .returned (.bool (decide (xs = ys))) ∧ Below w.heap.size w w' := by
  have HX := Lib.hid hx; clear hx
  have HY := Lib.hid hy; clear hy
  by_cases hl : n = n'
  · subst hl
    go_enter Try.func50, Try.ntmps50
    go_wp2
    go_loopw [6, 17] (fun t j wr => ∃ k : Nat, k ≤ n ∧ j = .int .i64 k ∧ t = .bool false ∧ Hid (xs.take k = ys.take k) ∧ Below w.heap.size w wr) (fun _ i _ => n - (intOf i).toNat)
    case atStart => exact ⟨0, Nat.zero_le _, rfl, rfl, Lib.hid rfl, Below.refl _ _⟩
    case round =>
      obtain ⟨k, hk, rfl, rfl, HT, hb⟩ := hrel
      have hz := hb.size
      by_cases hlt : k < n
      · obtain ⟨e, he, _⟩ := at_lt (xs := xs) (k := k) (by rw [HX.out]; exact hlt)
        obtain ⟨f, hf, _⟩ := at_lt (xs := ys) (k := k) (by rw [HY.out]; exact hlt)
        have HE := Lib.hid he
        have HF := Lib.hid hf
        have hne := Nat.le_trans (fldSum_ge he) hm
        have hnf := Nat.le_trans (fldSum_ge hf) hm'
        obtain ⟨b, off, a1, cap1, rfl, hlb, c0, c1, hs1⟩ := h.below hb (Nat.le_refl _) k e he
        obtain ⟨b', off', a2, cap2, rfl, hlb', d0, d1, hs2⟩ := h'.below hb (Nat.le_refl _) k f hf
        clear he hf
        have HS1 := Lib.hid hs1; clear hs1
        have HS2 := Lib.hid hs2; clear hs2
        have HQ := Lib.hid (shp_eq e f)
        by_cases hef : e = f
        · have HD := Lib.hid hef
          have HT2 := Lib.hid (take_same HT.out HE.out (by rw [HD.out]; exact HF.out))
          have HQ2 := Lib.hid (show (e.id == f.id && decide (e.flds = f.flds)) = true by rw [HQ.out]; simp [hef])
          clear hef
          go_wp2_with fail
          refine (sameSchema1_any _ _ e.flds f.flds _ _ _ _ _ _ _ (Sl.keep HS1.out (by ((repeat (first | (with_reducible exact Below.refl _ _) | (with_reducible assumption) | (with_reducible refine Below.alloc ?_ ?_ _) | (with_reducible refine Below.setCell ?_ ?_ _) | (with_reducible refine Below.drew ?_) | (with_reducible refine below_setRow ?_ ?_ _) | (refine Below.trans ?_ (Below.mono (by assumption) ?_)))); all_goals (first | omega | (simp; done) | (simp; omega))))) (Sl.keep HS2.out (by ((repeat (first | (with_reducible exact Below.refl _ _) | (with_reducible assumption) | (with_reducible refine Below.alloc ?_ ?_ _) | (with_reducible refine Below.setCell ?_ ?_ _) | (with_reducible refine Below.drew ?_) | (with_reducible refine below_setRow ?_ ?_ _) | (refine Below.trans ?_ (Below.mono (by assumption) ?_)))); all_goals (first | omega | (simp; done) | (simp; omega))))) rfl rfl hne hnf).mono ?_
          rintro r w1 ⟨rfl, hb1⟩
          have hz1 := hb1.size
          rw [HQ2.out]
          go_wp2
          go_roundw
          case rel => exact ⟨k + 1, by omega, by go_num, rfl, HT2, by ((repeat (first | (with_reducible exact Below.refl _ _) | (with_reducible assumption) | (with_reducible refine Below.alloc ?_ ?_ _) | (with_reducible refine Below.setCell ?_ ?_ _) | (with_reducible refine Below.drew ?_) | (with_reducible refine below_setRow ?_ ?_ _) | (refine Below.trans ?_ (Below.mono (by assumption) ?_)))); all_goals (first | omega | (simp; done) | (simp; omega)))⟩
          case measure => simp [intOf]; omega
        · have HS := Lib.hid (ne_of_at HE.out HF.out hef)
          have HQ2 := Lib.hid (show (e.id == f.id && decide (e.flds = f.flds)) = false by rw [HQ.out]; simp [hef])
          clear hef
          go_wp2_with fail
          refine (sameSchema1_any _ _ e.flds f.flds _ _ _ _ _ _ _ (Sl.keep HS1.out (by ((repeat (first | (with_reducible exact Below.refl _ _) | (with_reducible assumption) | (with_reducible refine Below.alloc ?_ ?_ _) | (with_reducible refine Below.setCell ?_ ?_ _) | (with_reducible refine Below.drew ?_) | (with_reducible refine below_setRow ?_ ?_ _) | (refine Below.trans ?_ (Below.mono (by assumption) ?_)))); all_goals (first | omega | (simp; done) | (simp; omega))))) (Sl.keep HS2.out (by ((repeat (first | (with_reducible exact Below.refl _ _) | (with_reducible assumption) | (with_reducible refine Below.alloc ?_ ?_ _) | (with_reducible refine Below.setCell ?_ ?_ _) | (with_reducible refine Below.drew ?_) | (with_reducible refine below_setRow ?_ ?_ _) | (refine Below.trans ?_ (Below.mono (by assumption) ?_)))); all_goals (first | omega | (simp; done) | (simp; omega))))) rfl rfl hne hnf).mono ?_
          rintro r w1 ⟨rfl, hb1⟩
          rw [HQ2.out]
          go_wp2
          go_ret
          exact ⟨ret_bool HS.out.symm, by ((repeat (first | (with_reducible exact Below.refl _ _) | (with_reducible assumption) | (with_reducible refine Below.alloc ?_ ?_ _) | (with_reducible refine Below.setCell ?_ ?_ _) | (with_reducible refine Below.drew ?_) | (with_reducible refine below_setRow ?_ ?_ _) | (refine Below.trans ?_ (Below.mono (by assumption) ?_)))); all_goals (first | omega | (simp; done) | (simp; omega)))⟩
      · have HS := Lib.hid (take_end HT.out (by rw [HX.out]; omega) (by rw [HY.out]; omega))
        go_wp2
        go_ret
        exact ⟨ret_bool HS.out.symm, hb⟩
  · have HS := Lib.hid (show decide (xs = ys) = false by
      simp only [decide_eq_false_iff_not]; intro hxy; subst hxy; exact hl (HX.out.symm.trans HY.out))
    have hl' : ((n : Int) != (n' : Int)) = true := by simp; omega
    go_enter Try.func50, Try.ntmps50
    go_wp2
    go_ret
    exact ⟨ret_bool HS.out.symm, Below.refl _ _⟩
theorem implSameSchema_any (a a' : Option Addr) (cap cap' n n' : Nat) (xs ys : List Shp) (w : World) (h : Shs w a xs) (h' : Shs w a' ys) (hx : xs.length = n) (hy : ys.length = n') (hn : n ≤ 1048576) (hn' : n' ≤ 1048576) (hm : fldSum xs ≤ 1048576) (hm' : fldSum ys ≤ 1048576) :
    Calls Try.prog 18 #[.agg #[.slice a n cap], .agg #[.slice a' n' cap']] w fun r w' => r = .returned (.bool (decide (xs = ys))) ∧ Below w.heap.size w w' := by
  have HX := Lib.hid hx; clear hx
  have HY := Lib.hid hy; clear hy
  have HS1 := Lib.hid h; clear h
  have HS2 := Lib.hid h'; clear h'
  obtain ⟨q, hq⟩ : ∃ q, decide (xs = ys) = q := ⟨_, rfl⟩
  rw [hq]
  have HQ := Lib.hid hq; clear hq
  go_enter Try.func18, Try.ntmps18
  go_wp2_with fail
  refine (equalFuncShp_any _ _ _ _ _ _ xs ys _ (HS1.out.keep (by ((repeat (first | (with_reducible exact Below.refl _ _) | (with_reducible assumption) | (with_reducible refine Below.alloc ?_ ?_ _) | (with_reducible refine Below.setCell ?_ ?_ _) | (with_reducible refine Below.drew ?_) | (with_reducible refine below_setRow ?_ ?_ _) | (refine Below.trans ?_ (Below.mono (by assumption) ?_)))); all_goals (first | omega | (simp; done) | (simp; omega))))) (HS2.out.keep (by ((repeat (first | (with_reducible exact Below.refl _ _) | (with_reducible assumption) | (with_reducible refine Below.alloc ?_ ?_ _) | (with_reducible refine Below.setCell ?_ ?_ _) | (with_reducible refine Below.drew ?_) | (with_reducible refine below_setRow ?_ ?_ _) | (refine Below.trans ?_ (Below.mono (by assumption) ?_)))); all_goals (first | omega | (simp; done) | (simp; omega))))) HX.out HY.out hn hn' hm hm').mono ?_
  rintro r w1 ⟨rfl, hb1⟩
  rw [HQ.out]
  go_wp2
  go_ret
  exact ⟨rfl, by ((repeat (first | (with_reducible exact Below.refl _ _) | (with_reducible assumption) | (with_reducible refine Below.alloc ?_ ?_ _) | (with_reducible refine Below.setCell ?_ ?_ _) | (with_reducible refine Below.drew ?_) | (with_reducible refine below_setRow ?_ ?_ _) | (refine Below.trans ?_ (Below.mono (by assumption) ?_)))); all_goals (first | omega | (simp; done) | (simp; omega)))⟩
set_option maxHeartbeats 4000000 in
theorem specSameSchema_any (a a' : Option Addr) (cap cap' n n' : Nat) (xs ys : List Shp) (w : World) (h : Shs w a xs) (h' : Shs w a' ys) (hx : xs.length = n) (hy : ys.length = n') (hn : n ≤ 1048576) (hn' : n' ≤ 1048576) (hm : fldSum xs ≤ 1048576) (hm' : fldSum ys ≤ 1048576) :
    Calls Try.prog 19 #[.agg #[.slice a n cap], .agg #[.slice a' n' cap']] w fun r w' => r = .returned (.bool (decide (xs = ys))) ∧ Below w.heap.size w w' := by
  have HX := Lib.hid hx; clear hx
  have HY := Lib.hid hy; clear hy
  by_cases hl : n = n'
  · subst hl
    go_enter Try.func19, Try.ntmps19
    go_wp2
    have hbx0 := Lib.hid (box_cells (heap_nth1 w (.cells #[.slice a n cap] 30) (.cells #[.slice a' n cap'] 30)))
    go_loopw [4, 5] (fun t j wr => ∃ k : Nat, k ≤ n ∧ j = .int .i64 k ∧ t = .bool false ∧ Hid (xs.take k = ys.take k) ∧ Below w.heap.size w wr ∧ (∀ i, wr.cell? ⟨w.heap.size, i, none⟩ = (#[.slice a n cap] : Array Value)[i]?) ∧ (∀ i, wr.cell? ⟨w.heap.size + 1, i, none⟩ = (#[.slice a' n cap'] : Array Value)[i]?) ∧ w.heap.size + 1 < wr.heap.size) (fun _ i _ => n - (intOf i).toNat)
    case atStart => exact ⟨0, Nat.zero_le _, rfl, rfl, Lib.hid rfl, by ((repeat (first | (with_reducible exact Below.refl _ _) | (with_reducible assumption) | (with_reducible refine Below.alloc ?_ ?_ _) | (with_reducible refine Below.setCell ?_ ?_ _) | (with_reducible refine Below.drew ?_) | (with_reducible refine below_setRow ?_ ?_ _) | (refine Below.trans ?_ (Below.mono (by assumption) ?_)))); all_goals (first | omega | (simp; done) | (simp; omega))), hbx0.out, box_cells (heap_new1 w _ _), by simp⟩
    case round =>
      obtain ⟨k, hk, rfl, rfl, HT, hb, kA, kB, hzz⟩ := hrel
      have hz := hb.size
      by_cases hlt : k < n
      · obtain ⟨e, he, _⟩ := at_lt (xs := xs) (k := k) (by rw [HX.out]; exact hlt)
        obtain ⟨f, hf, _⟩ := at_lt (xs := ys) (k := k) (by rw [HY.out]; exact hlt)
        have HE := Lib.hid he
        have HF := Lib.hid hf
        have hne := Nat.le_trans (fldSum_ge he) hm
        have hnf := Nat.le_trans (fldSum_ge hf) hm'
        obtain ⟨b, off, a1, cap1, rfl, hlb, c0, c1, hs1⟩ := h.below hb (Nat.le_refl _) k e he
        obtain ⟨b', off', a2, cap2, rfl, hlb', d0, d1, hs2⟩ := h'.below hb (Nat.le_refl _) k f hf
        clear he hf
        have HS1 := Lib.hid hs1; clear hs1
        have HS2 := Lib.hid hs2; clear hs2
        by_cases hid : e.id = f.id
        · by_cases hlen : e.flds.length = f.flds.length
          · have hid' : (e.id != f.id) = false := by simp [hid]
            have hlen' : ((e.flds.length : Int) != (f.flds.length : Int)) = false := by simp [hlen]
            have HID := Lib.hid hid; clear hid
            have HLEN := Lib.hid hlen; clear hlen
            go_wp2
            obtain ⟨wo, rfl⟩ : ∃ wo : World, wo = wr := ⟨_, rfl⟩
            have hbx1 := Lib.hid (box_cells (heap_nth1 wo (.cells #[.int .i64 e.id, .slice a1 e.flds.length cap1] 43) (.cells #[.int .i64 f.id, .slice a2 f.flds.length cap2] 43)))
            have hbx2 := Lib.hid (box_cells (heap_new1 wo (.cells #[.int .i64 e.id, .slice a1 e.flds.length cap1] 43) (.cells #[.int .i64 f.id, .slice a2 f.flds.length cap2] 43)))
            go_loopw [4, 8] (fun t j wr => ∃ q : Nat, q ≤ e.flds.length ∧ j = .int .i64 q ∧ t = .bool false ∧ Hid (e.flds.take q = f.flds.take q) ∧ Below wo.heap.size wo wr ∧ (∀ i, wr.cell? ⟨wo.heap.size, i, none⟩ = (#[.int .i64 e.id, .slice a1 e.flds.length cap1] : Array Value)[i]?) ∧ (∀ i, wr.cell? ⟨wo.heap.size + 1, i, none⟩ = (#[.int .i64 f.id, .slice a2 f.flds.length cap2] : Array Value)[i]?) ∧ wo.heap.size + 1 < wr.heap.size) (fun _ i _ => e.flds.length - (intOf i).toNat)
            case atStart => exact ⟨0, Nat.zero_le _, rfl, rfl, Lib.hid rfl, by ((repeat (first | (with_reducible exact Below.refl _ _) | (with_reducible assumption) | (with_reducible refine Below.alloc ?_ ?_ _) | (with_reducible refine Below.setCell ?_ ?_ _) | (with_reducible refine Below.drew ?_) | (with_reducible refine below_setRow ?_ ?_ _) | (refine Below.trans ?_ (Below.mono (by assumption) ?_)))); all_goals (first | omega | (simp; done) | (simp; omega))), hbx1.out, hbx2.out, by simp⟩
            case round =>
              obtain ⟨q, hq, rfl, rfl, HT1, hb1, kC, kD, hzi⟩ := hrel
              have hzi0 : wo.heap.size < wr.heap.size := by omega
              by_cases hqlt : q < e.flds.length
              · obtain ⟨g, hg, _⟩ := at_lt (xs := e.flds) (k := q) hqlt
                obtain ⟨g', hg', _⟩ := at_lt (xs := f.flds) (k := q) (by rw [← HLEN.out]; exact hqlt)
                have HG := Lib.hid hg
                have HG' := Lib.hid hg'
                have hqlt2 : q < f.flds.length := by rw [← HLEN.out]; exact hqlt
                obtain ⟨p, o, rfl, hp, x0, x1, x2, x3, x4⟩ := Flds.at (Sl.keep HS1.out hb1) hg
                obtain ⟨p', o', rfl, hp', y0, y1, y2, y3, y4⟩ := Flds.at (Sl.keep HS2.out hb1) hg'
                clear hg hg'
                by_cases hgg : g = g'
                · have hd : sameF g g' = true := by simp [sameF, hgg]
                  have HD := Lib.hid hgg; clear hgg
                  have HT2 := Lib.hid (take_same HT1.out HG.out (by rw [HD.out]; exact HG'.out))
                  have hne := run_neq_fld
                  go_wp2_with fail
                  (refine wp_region_ext (by kernel_rfl) (by kernel_rfl) ?_; (repeat (go_big_quiet_step (fail))); refine wpQuiet_nil ?_; intro w1 hb1; obtain ⟨hc1, hf1⟩ := bcell hb1; have hz1 := hb1.size; (try simp only [World.size_alloc, World.size_setCell, World.size_drew] at hz1))
                  go_wp2
                  go_roundw
                  case rel => exact ⟨q + 1, by omega, by go_num, rfl, HT2, by ((repeat (first | (with_reducible exact Below.refl _ _) | (with_reducible assumption) | (with_reducible refine Below.alloc ?_ ?_ _) | (with_reducible refine Below.setCell ?_ ?_ _) | (with_reducible refine Below.drew ?_) | (with_reducible refine below_setRow ?_ ?_ _) | (refine Below.trans ?_ (Below.mono (by assumption) ?_)))); all_goals (first | omega | (simp; done) | (simp; omega))), box_next hb1 (by omega) kC, box_next hb1 (by omega) kD, by omega⟩
                  case measure => simp [intOf]; omega
                · have hd : sameF g g' = false := by simp [sameF, hgg]
                  have HS := Lib.hid (ne_of_at HE.out HF.out (by rintro rfl; exact hgg (by have h1 := HG.out; rw [HG'.out] at h1; simpa using h1.symm)))
                  clear hgg
                  have hne := run_neq_fld
                  go_wp2_with fail
                  (refine wp_region_ext (by kernel_rfl) (by kernel_rfl) ?_; (repeat (go_big_quiet_step (fail))); refine wpQuiet_nil ?_; intro w1 hb1; obtain ⟨hc1, hf1⟩ := bcell hb1; have hz1 := hb1.size; (try simp only [World.size_alloc, World.size_setCell, World.size_drew] at hz1))
                  go_wp2
                  go_ret
                  exact ⟨ret_bool HS.out.symm, by ((repeat (first | (with_reducible exact Below.refl _ _) | (with_reducible assumption) | (with_reducible refine Below.alloc ?_ ?_ _) | (with_reducible refine Below.setCell ?_ ?_ _) | (with_reducible refine Below.drew ?_) | (with_reducible refine below_setRow ?_ ?_ _) | (refine Below.trans ?_ (Below.mono (by assumption) ?_)))); all_goals (first | omega | (simp; done) | (simp; omega)))⟩
              · have HEF := Lib.hid (show e = f by
                  have h1 := HT1.out
                  rw [List.take_of_length_le (by omega), List.take_of_length_le (by have := HLEN.out; omega)] at h1
                  obtain ⟨i, x⟩ := e; obtain ⟨j, y⟩ := f; simp only at h1; have h2 := HID.out; simp only at h2; rw [h1, h2])
                have HT2 := Lib.hid (take_same HT.out HE.out (by rw [HEF.out]; exact HF.out))
                have hzi2 := hb1.size
                go_wp2
                go_roundw
                case rel => exact ⟨k + 1, by omega, by go_num, rfl, HT2, by ((repeat (first | (with_reducible exact Below.refl _ _) | (with_reducible assumption) | (with_reducible refine Below.alloc ?_ ?_ _) | (with_reducible refine Below.setCell ?_ ?_ _) | (with_reducible refine Below.drew ?_) | (with_reducible refine below_setRow ?_ ?_ _) | (refine Below.trans ?_ (Below.mono (by assumption) ?_)))); all_goals (first | omega | (simp; done) | (simp; omega))), box_next hb1 (by omega) kA, box_next hb1 (by omega) kB, by omega⟩
                case measure => simp [intOf]; omega
          · have hid' : (e.id != f.id) = false := by simp [hid]
            have hlen' : ((e.flds.length : Int) != (f.flds.length : Int)) = true := by simp; omega
            have HS := Lib.hid (ne_of_at HE.out HF.out (by rintro rfl; exact hlen rfl))
            clear hid hlen
            go_wp2
            go_ret
            exact ⟨ret_bool HS.out.symm, by ((repeat (first | (with_reducible exact Below.refl _ _) | (with_reducible assumption) | (with_reducible refine Below.alloc ?_ ?_ _) | (with_reducible refine Below.setCell ?_ ?_ _) | (with_reducible refine Below.drew ?_) | (with_reducible refine below_setRow ?_ ?_ _) | (refine Below.trans ?_ (Below.mono (by assumption) ?_)))); all_goals (first | omega | (simp; done) | (simp; omega)))⟩
        · have hid' : (e.id != f.id) = true := by simp [hid]
          have HS := Lib.hid (ne_of_at HE.out HF.out (by rintro rfl; exact hid rfl))
          clear hid
          go_wp2
          go_ret
          exact ⟨ret_bool HS.out.symm, by ((repeat (first | (with_reducible exact Below.refl _ _) | (with_reducible assumption) | (with_reducible refine Below.alloc ?_ ?_ _) | (with_reducible refine Below.setCell ?_ ?_ _) | (with_reducible refine Below.drew ?_) | (with_reducible refine below_setRow ?_ ?_ _) | (refine Below.trans ?_ (Below.mono (by assumption) ?_)))); all_goals (first | omega | (simp; done) | (simp; omega)))⟩
      · have HS := Lib.hid (take_end HT.out (by rw [HX.out]; omega) (by rw [HY.out]; omega))
        go_wp2
        go_ret
        exact ⟨ret_bool HS.out.symm, hb⟩
  · have HS := Lib.hid (show decide (xs = ys) = false by
      simp only [decide_eq_false_iff_not]; intro hxy; subst hxy; exact hl (HX.out.symm.trans HY.out))
    have hl' : ((n : Int) != (n' : Int)) = true := by simp; omega
    go_enter Try.func19, Try.ntmps19
    go_wp2
    go_ret
    exact ⟨ret_bool HS.out.symm, by ((repeat (first | (with_reducible exact Below.refl _ _) | (with_reducible assumption) | (with_reducible refine Below.alloc ?_ ?_ _) | (with_reducible refine Below.setCell ?_ ?_ _) | (with_reducible refine Below.drew ?_) | (with_reducible refine below_setRow ?_ ?_ _) | (refine Below.trans ?_ (Below.mono (by assumption) ?_)))); all_goals (first | omega | (simp; done) | (simp; omega)))⟩
theorem filt_len : ∀ {ss : List Int} {k : Nat} {z : Int}, ss.Pairwise (· < ·) → ss[k]? = some z → (ss.filter fun y => decide (y < z)).length = k
  | [], k, z, _, h => by simp at h
  | s :: ss, 0, z, hp, h => by
    simp only [List.getElem?_cons_zero, Option.some.injEq] at h
    subst h
    rw [List.filter_cons_of_neg (by simp)]
    rw [List.length_eq_zero_iff, List.filter_eq_nil_iff]
    intro y hy
    have := (List.pairwise_cons.1 hp).1 y hy
    simp; omega
  | s :: ss, k + 1, z, hp, h => by
    simp only [List.getElem?_cons_succ] at h
    have hp' := List.pairwise_cons.1 hp
    have := hp'.1 z (List.mem_of_getElem? h)
    rw [List.filter_cons_of_pos (by simpa using this), List.length_cons, filt_len hp'.2 h]
def sortI (zs : List Int) : List Int := zs.mergeSort fun x y => decide (x ≤ y)
theorem sortI_perm (zs : List Int) : (sortI zs).Perm zs := List.mergeSort_perm _ _
theorem sortI_len (zs : List Int) : (sortI zs).length = zs.length := (sortI_perm zs).length_eq
theorem sortI_lt {zs : List Int} (h : zs.Nodup) : (sortI zs).Pairwise (· < ·) := by
  have h1 : (sortI zs).Pairwise (fun a b => decide (a ≤ b) = true) := List.pairwise_mergeSort (by intro a b c; simp; omega) (by intro a b; simp; omega) zs
  have h2 : (sortI zs).Pairwise (· ≠ ·) := List.nodup_iff_pairwise_ne.1 ((sortI_perm zs).nodup_iff.2 h)
  exact (h1.and h2).imp (by rintro a b ⟨h, h'⟩; simp at h; omega)
def rankI (zs : List Int) (z : Int) : Nat := (zs.filter fun y => decide (y < z)).length
theorem rankI_at {zs : List Int} (h : zs.Nodup) {k : Nat} {z : Int} (hz : (sortI zs)[k]? = some z) : rankI zs z = k := by
  rw [rankI, ← ((sortI_perm zs).filter _).length_eq]; exact filt_len (sortI_lt h) hz
theorem rankS_eq (xs : List Shp) (z : Int) : rankS xs z = rankI (xs.map Shp.id) z := by
  rw [rankS, rankI, List.filter_map, List.length_map]; rfl
theorem idx_at {zs : List Int} (h : zs.Nodup) {k : Nat} {z : Int} (hz : (sortI zs)[k]? = some z) : Lib.idxOf (sortI zs) z = k := by
  obtain ⟨hk, he⟩ := List.getElem?_eq_some_iff.1 hz
  have := Lib.idxFrom_hit z (sortI zs) k 0 hk (by rw [List.getD_eq_getElem?_getD, hz]; rfl) (by
    intro j hj e
    have hp := List.pairwise_iff_getElem.1 (sortI_lt h) j k (by omega) hk hj
    rw [List.getD_eq_getElem?_getD, List.getElem?_eq_getElem (by omega), Option.getD_some] at e
    rw [e, he] at hp; omega)
  simpa [Lib.idxOf] using this
theorem rank_idx {zs : List Int} (h : zs.Nodup) {z : Int} (hz : z ∈ zs) : Lib.idxOf (sortI zs) z = rankI zs z := by
  obtain ⟨k, hk⟩ := List.getElem?_of_mem ((sortI_perm zs).mem_iff.2 hz)
  rw [idx_at h hk, rankI_at h hk]
structure RawVal (xs : List Shp) : Prop where
  n : xs.length ≤ 6
  msg : ∀ (i : Nat) (x : Shp), xs[i]? = some x → msgC xs i x = 0
  fld : ∀ (i : Nat) (x : Shp), xs[i]? = some x → ∀ (k : Nat) (f : Fld), x.flds[k]? = some f → fldC xs x.flds k f = 0
theorem firstF_some {xs : List Shp} {i : Nat} {fs : List Fld} : ∀ {rest : List Fld} {k : Nat} {v : Int × Int × Int}, firstF xs i fs k rest = some v → v.1 ≠ 0
  | [], k, v, h => by simp [firstF] at h
  | f :: rest, k, v, h => by
    rw [firstF] at h
    by_cases hz : fldC xs fs k f = 0
    · rw [if_pos hz] at h; exact firstF_some h
    · rw [if_neg hz] at h; simp only [Option.some.injEq] at h; subst h; exact hz
theorem firstF_no {xs : List Shp} {i : Nat} {fs : List Fld} : ∀ {rest : List Fld} {k : Nat}, fs.drop k = rest → firstF xs i fs k rest = none → ∀ (j : Nat) (f : Fld), k ≤ j → fs[j]? = some f → fldC xs fs j f = 0
  | [], k, hd, h, j, f, hkj, hf => by
    have := List.drop_eq_nil_iff.1 hd
    obtain ⟨hj, _⟩ := List.getElem?_eq_some_iff.1 hf
    omega
  | g :: rest, k, hd, h, j, f, hkj, hf => by
    rw [firstF] at h
    by_cases hz : fldC xs fs k g = 0
    · rw [if_pos hz] at h
      have hg : fs[k]? = some g := by have := congrArg List.head? hd; rw [List.head?_drop] at this; simpa using this
      rcases Nat.eq_or_lt_of_le hkj with rfl | hlt
      · rw [hg] at hf; cases hf; exact hz
      · exact firstF_no (by have := congrArg List.tail hd; rw [List.tail_drop] at this; simpa using this) h j f hlt hf
    · rw [if_neg hz] at h; simp at h
theorem firstM_no {xs : List Shp} : ∀ {rest : List Shp} {i : Nat}, xs.drop i = rest → (firstM xs i rest).1 = 0 → ∀ (j : Nat) (x : Shp), i ≤ j → xs[j]? = some x → msgC xs j x = 0 ∧ ∀ (k : Nat) (f : Fld), x.flds[k]? = some f → fldC xs x.flds k f = 0
  | [], i, hd, h, j, x, hij, hx => by
    have := List.drop_eq_nil_iff.1 hd
    obtain ⟨hj, _⟩ := List.getElem?_eq_some_iff.1 hx
    omega
  | y :: rest, i, hd, h, j, x, hij, hx => by
    rw [firstM] at h
    by_cases hz : msgC xs i y = 0
    · rw [if_pos hz] at h
      have hy : xs[i]? = some y := by have := congrArg List.head? hd; rw [List.head?_drop] at this; simpa using this
      cases hF : firstF xs i y.flds 0 y.flds with
      | some v => rw [hF] at h; exact absurd h (firstF_some hF)
      | none =>
        rw [hF] at h
        rcases Nat.eq_or_lt_of_le hij with rfl | hlt
        · rw [hy] at hx; cases hx
          exact ⟨hz, fun k f hf => firstF_no (by simp) hF k f (Nat.zero_le _) hf⟩
        · exact firstM_no (by have := congrArg List.tail hd; rw [List.tail_drop] at this; simpa using this) h j x hlt hx
    · rw [if_neg hz] at h; exact absurd h hz
theorem val_of {xs : List Shp} (h : (firstV xs).1 = 0) : RawVal xs := by
  by_cases h6 : 6 < xs.length
  · rw [firstV, if_pos h6] at h; simp at h
  · rw [firstV, if_neg h6] at h
    have := firstM_no (xs := xs) (by simp) h
    exact ⟨by omega, fun i x hx => (this i x (Nat.zero_le _) hx).1, fun i x hx => (this i x (Nat.zero_le _) hx).2⟩
theorem RawVal.len {xs : List Shp} (h : RawVal xs) {x : Shp} (hx : x ∈ xs) : x.flds.length ≤ 8 := by
  obtain ⟨i, hi⟩ := List.getElem?_of_mem hx
  have := h.msg i x hi
  unfold msgC at this
  split at this
  · simp at this
  · split at this
    · simp at this
    · split at this
      · simp at this
      · omega
theorem msgC_id {xs : List Shp} {i : Nat} {x : Shp} (h : msgC xs i x = 0) : inB x.id 1 99 = true ∧ hasId (xs.take i) x.id = false := by
  unfold msgC at h
  split at h
  · simp at h
  · rename_i h1
    split at h
    · simp at h
    · rename_i h2
      exact ⟨by simpa using h1, by simpa using h2⟩
theorem RawVal.nodup {xs : List Shp} (h : RawVal xs) : (xs.map Shp.id).Nodup := by
  rw [List.nodup_iff_pairwise_ne, List.pairwise_iff_getElem]
  intro i j hi hj hij e
  rw [List.length_map] at hi hj
  simp only [List.getElem_map] at e
  have h2 := (msgC_id (h.msg j xs[j] (List.getElem?_eq_getElem hj))).2
  rw [hasId, List.any_eq_false] at h2
  have := h2 xs[i] (List.mem_of_getElem? (i := i) (by rw [List.getElem?_take]; simp [hij, List.getElem?_eq_getElem hi]))
  simp [e] at this
theorem fldC_num {xs : List Shp} {fs : List Fld} {k : Nat} {f : Fld} (h : fldC xs fs k f = 0) : hasNum (fs.take k) f.number = false ∧ refBad xs f = false := by
  unfold fldC at h
  split at h
  · simp at h
  · split at h
    · simp at h
    · rename_i h2
      split at h
      · simp at h
      · split at h
        · simp at h
        · split at h
          · simp at h
          · rename_i h5
            exact ⟨by simpa using h2, by simpa using h5⟩
def NumInj (fs : List Fld) : Prop := ∀ f ∈ fs, ∀ g ∈ fs, f.number = g.number → f = g
theorem RawVal.inj {xs : List Shp} (h : RawVal xs) {x : Shp} (hx : x ∈ xs) : NumInj x.flds := by
  obtain ⟨i, hi⟩ := List.getElem?_of_mem hx
  have key : ∀ (j k : Nat) (f g : Fld), x.flds[j]? = some f → x.flds[k]? = some g → j < k → f.number ≠ g.number := by
    intro j k f g hf hg hjk e
    have h2 := (fldC_num (h.fld i x hi k g hg)).1
    rw [hasNum, List.any_eq_false] at h2
    have := h2 f (List.mem_of_getElem? (i := j) (by rw [List.getElem?_take]; simp [hjk, hf]))
    simp [e] at this
  intro f hf g hg e
  obtain ⟨j, hj⟩ := List.getElem?_of_mem hf
  obtain ⟨k, hk⟩ := List.getElem?_of_mem hg
  rcases Nat.lt_trichotomy j k with hlt | rfl | hlt
  · exact absurd e (key j k f g hj hk hlt)
  · rw [hj] at hk; cases hk; rfl
  · exact absurd e.symm (key k j g f hk hj hlt)
theorem RawVal.ref {xs : List Shp} (h : RawVal xs) {x : Shp} (hx : x ∈ xs) {f : Fld} (hf : f ∈ x.flds) (h8 : f.kind = 8) : f.msg ∈ xs.map Shp.id := by
  obtain ⟨i, hi⟩ := List.getElem?_of_mem hx
  obtain ⟨k, hk⟩ := List.getElem?_of_mem hf
  have h2 := (fldC_num (h.fld i x hi k f hk)).2
  rw [refBad, if_pos h8] at h2
  simp only [Bool.not_eq_false', hasId, List.any_eq_true] at h2
  obtain ⟨y, hy, e⟩ := h2
  simp only [beq_iff_eq] at e
  exact List.mem_map.2 ⟨y, hy, e⟩
def ifld (ids : List Int) (f : Fld) : Fld := ⟨f.number, f.kind, f.rep, f.packed, if f.kind = 8 then Lib.idxOf ids f.msg else -1⟩
theorem ifld_eq {xs : List Shp} (h : RawVal xs) {x : Shp} (hx : x ∈ xs) {f : Fld} (hf : f ∈ x.flds) : ifld (sortI (xs.map Shp.id)) f = cfld xs f := by
  unfold ifld cfld
  by_cases h8 : f.kind = 8
  · rw [if_pos h8, if_pos h8, rank_idx h.nodup (h.ref hx hf h8), rankS_eq]
  · rw [if_neg h8, if_neg h8]
def NumLe (f g : Fld) : Prop := f.number ≤ g.number
theorem putF_perm : ∀ (l : List Fld) (f : Fld), (putF l f).Perm (f :: l)
  | [], f => .refl _
  | g :: gs, f => by
    unfold putF
    split
    · exact ((putF_perm gs f).cons g).trans (.swap f g gs)
    · exact .refl _
theorem putF_sorted : ∀ {l : List Fld} {f : Fld}, l.Pairwise NumLe → (putF l f).Pairwise NumLe
  | [], f, _ => by simp [putF]
  | g :: gs, f, h => by
    have hc := List.pairwise_cons.1 h
    unfold putF
    split
    · rename_i hlt
      rw [List.pairwise_cons]
      refine ⟨fun y hy => ?_, putF_sorted hc.2⟩
      rcases List.mem_cons.1 ((putF_perm gs f).mem_iff.1 hy) with rfl | hy
      · unfold NumLe; omega
      · exact hc.1 y hy
    · rename_i hge
      rw [List.pairwise_cons]
      refine ⟨fun y hy => ?_, h⟩
      rcases List.mem_cons.1 hy with rfl | hy
      · unfold NumLe; omega
      · have := hc.1 y hy; unfold NumLe at this ⊢; omega
theorem cflds_perm (xs : List Shp) : ∀ (fs l : List Fld), (cflds xs l fs).Perm (l ++ fs.map (cfld xs))
  | [], l => by simp [cflds]
  | f :: fs, l => by
    rw [cflds, List.map_cons]
    refine (cflds_perm xs fs _).trans ?_
    refine ((putF_perm l (cfld xs f)).append_right _).trans ?_
    simpa using List.perm_middle.symm
theorem cflds_sorted (xs : List Shp) : ∀ (fs : List Fld) {l : List Fld}, l.Pairwise NumLe → (cflds xs l fs).Pairwise NumLe
  | [], l, h => h
  | f :: fs, l, h => cflds_sorted xs fs (putF_sorted h)
theorem sorted_fields {xs : List Shp} (h : RawVal xs) {x : Shp} (hx : x ∈ xs) {d : List Fld} (hp : d.Perm (x.flds.map (ifld (sortI (xs.map Shp.id))))) (hs : d.Pairwise NumLe) : d = cflds xs [] x.flds := by
  have e : x.flds.map (ifld (sortI (xs.map Shp.id))) = x.flds.map (cfld xs) := List.map_congr_left fun f hf => ifld_eq h hx hf
  rw [e] at hp
  have hq := cflds_perm xs x.flds []
  rw [List.nil_append] at hq
  refine List.Perm.eq_of_pairwise (le := NumLe) ?_ hs (cflds_sorted xs x.flds .nil) (hp.trans hq.symm)
  intro a b ha hb h1 h2
  obtain ⟨f, hf, rfl⟩ := List.mem_map.1 (hp.mem_iff.1 ha)
  obtain ⟨g, hg, rfl⟩ := List.mem_map.1 (hq.mem_iff.1 hb)
  have : f = g := h.inj hx f hf g hg (by unfold NumLe cfld at h1 h2; simp only at h1 h2; omega)
  rw [this]
theorem cgo_keep {xs : List Shp} {k : Nat} : ∀ {rest ys : List Shp}, (∀ z ∈ rest, rankS xs z.id ≠ k) → (cgo xs ys rest)[k]? = ys[k]?
  | [], ys, _ => rfl
  | z :: rest, ys, h => by
    rw [cgo, cgo_keep fun y hy => h y (List.mem_cons_of_mem _ hy), List.getElem?_set_ne (h z (List.mem_cons_self ..))]
theorem cgo_at {xs : List Shp} {x : Shp} : ∀ {rest ys : List Shp}, x ∈ rest → (∀ z ∈ rest, rankS xs z.id = rankS xs x.id → z = x) → rankS xs x.id < ys.length → (cgo xs ys rest)[rankS xs x.id]? = some ⟨x.id, cflds xs [] x.flds⟩
  | z :: rest, ys, hx, hi, hl => by
    rw [cgo]
    by_cases hr : x ∈ rest
    · exact cgo_at hr (fun y hy => hi y (List.mem_cons_of_mem _ hy)) (by rw [List.length_set]; exact hl)
    · rcases List.mem_cons.1 hx with rfl | hx'
      · rw [cgo_keep fun y hy e => hr (hi y (List.mem_cons_of_mem _ hy) e ▸ hy), List.getElem?_set_self hl]
      · exact absurd hx' hr
theorem compS_at {xs : List Shp} (h : RawVal xs) {k : Nat} {z : Int} (hz : (sortI (xs.map Shp.id))[k]? = some z) : ∃ x ∈ xs, x.id = z ∧ (compS xs)[k]? = some ⟨z, cflds xs [] x.flds⟩ := by
  obtain ⟨x, hx, rfl⟩ := List.mem_map.1 ((sortI_perm _).mem_iff.1 (List.mem_of_getElem? hz))
  refine ⟨x, hx, rfl, ?_⟩
  have hk : rankS xs x.id = k := by rw [rankS_eq]; exact rankI_at h.nodup hz
  have := cgo_at (xs := xs) (x := x) (rest := xs) (ys := List.replicate xs.length ⟨0, []⟩) hx (fun y hy e => by
    obtain ⟨j, hj⟩ := List.getElem?_of_mem ((sortI_perm (xs.map Shp.id)).mem_iff.2 (List.mem_map_of_mem (f := Shp.id) hy))
    have h1 := rankI_at h.nodup hj
    rw [← rankS_eq, e, hk] at h1
    subst h1
    rw [hz] at hj
    have e2 : x.id = y.id := Option.some.inj hj
    obtain ⟨p, hp⟩ := List.getElem?_of_mem hy
    obtain ⟨q, hq⟩ := List.getElem?_of_mem hx
    have hn := h.nodup
    rw [List.nodup_iff_pairwise_ne, List.pairwise_iff_getElem] at hn
    obtain ⟨hpl, hpe⟩ := List.getElem?_eq_some_iff.1 hp
    obtain ⟨hql, hqe⟩ := List.getElem?_eq_some_iff.1 hq
    rcases Nat.lt_trichotomy p q with hlt | rfl | hlt
    · exact (hn p q (by simpa using hpl) (by simpa using hql) hlt (by simp only [List.getElem_map, hpe, hqe, e2])).elim
    · rw [hp] at hq; exact Option.some.inj hq
    · exact (hn q p (by simpa using hql) (by simpa using hpl) hlt (by simp only [List.getElem_map, hpe, hqe, e2])).elim) (by rw [List.length_replicate]; exact rank_lt hx)
  rw [hk] at this
  exact this
end Go.Proofs.Ytbpilecgnfnndaa

/- Texts that FnSettle leans on, part 2. (Put together by wip/tools/bundle.py.) -/
import Derived.Laws.AppendOwnNone
import Derived.Deep.AppendLies
import Derived.Laws.Tables
import Derived.IntWalk
import Derived.Test.YtabdjimjelfbfaaGreatSettle1
namespace Go.Proofs.YtabdjimjelfbfaaGreat
set_option linter.unusedSimpArgs false
set_option linter.unusedVariables false
open Go.ChangeShapes Go.WideShapes Go.ChangeAt Go.RowKit Go.BigFrame
section
variable {P : Program} {ops : Array Oper} {Q : Exit → Act → World → Prop} {md : Region.Mode} {S : World → Prop} {D : Nat → Bool}
def wpTill (P : Program) (md : Region.Mode) (ops : Array Oper) (Q : Exit → Act → World → Prop) (S : World → Prop) (D : Nat → Bool) : Nat → Array Bool → Act → World → Prop
 | 0, listed, a, w => Region.ready md ops listed = [] ∧ Q .normal a w
 | f + 1, listed, a, w => (Region.ready md ops listed = [] → Q .normal a w) ∧
   ∀ i ∈ Region.ready md ops listed, wpOp P ops Q i (fun a' w' => (D i = false → S w') ∧ wpTill P md ops Q S D f (listed.setIfInBounds i true) a' w') a w
theorem wpTill_any : ∀ (f : Nat) (listed : Array Bool) (a : Act) (w : World), wpTill P md ops Q S D f listed a w → wpAny P md ops Q f listed a w
 | 0, _, _, _, h => h
 | f + 1, _, _, _, h => ⟨h.1, fun i hi => wpOp_mono (fun a' w' g => wpTill_any f _ a' w' g.2) (h.2 i hi)⟩
theorem ready_nowait {listed : Array Bool} {i j : Nat} {oj : Oper} (hi : i ∈ Region.ready md ops listed) (hj : j ∈ Region.ready md ops listed) (hoj : ops[j]? = some oj) : ∀ e ∈ oj.after, Region.binds md e = true → e.on ≠ i := by
 intro e he hb heq
 obtain ⟨_, o, ho, hall⟩ := mem_ready.1 hj
 rw [hoj] at ho
 obtain rfl := Option.some.inj ho
 have h1 := hall e he hb
 have h0 := (mem_ready.1 hi).1
 rw [heq] at h1
 rcases Nat.lt_or_ge i listed.size with h' | h'
 ·simp [h'] at h0 h1; rw [h0] at h1; cases h1
 ·simp [Array.getElem?_eq_none h'] at h1
def waits (md : Region.Mode) (ops : Array Oper) (D : Nat → Bool) (i : Nat) : Bool :=
 (List.range ops.size).all fun j => !D j || (match ops[j]? with | some o => o.after.any fun e => Region.binds md e && e.on == i | none => true)
theorem waits_spec {i j : Nat} {oj : Oper} (h : waits md ops D i = true) (hoj : ops[j]? = some oj) (hD : D j = true) : ∃ e ∈ oj.after, Region.binds md e = true ∧ e.on = i := by
 have hj : j < ops.size := by
  rcases Nat.lt_or_ge j ops.size with h' | h'
  ·exact h'
  ·rw [Array.getElem?_eq_none h'] at hoj; cases hoj
 have h1 := List.all_eq_true.1 h j (List.mem_range.2 hj)
 rw [hD, hoj] at h1
 simp only [Bool.not_true, Bool.false_or, Array.any_eq_true', Bool.and_eq_true, beq_iff_eq] at h1
 exact h1
theorem wpTill_first {i : Nat} {oi : Oper} {v : Value} (hi : ops[i]? = some oi) (hsel : ∀ (j : Nat) (o : Oper) cs b, ops[j]? = some o → o.op ≠ .select cs b)
  (hQ : ∀ c a w, Q (.panic c) (a.put oi.dst v) w → Q (.panic c) a w) (hw : waits md ops D i = true) :
  ∀ (f : Nat) (listed : Array Bool) (a : Act) (w : World),
   (∀ j oj, ops[j]? = some oj → j ≠ i → listed.getD j true = false → (∀ e ∈ oj.after, Region.binds md e = true → e.on ≠ i) → oi.apart ops oj = true) →
   i ∈ Region.ready md ops listed → YieldsIf P ops S oi v a → S w →
   wpTill P md ops Q S D f (listed.setIfInBounds i true) (a.put oi.dst v) w → wpTill P md ops Q S D (f + 1) listed a w := by
 intro f
 induction f with
 | zero =>
  intro listed a w _ hr hy hS H
  refine ⟨fun h => (by rw [h] at hr; cases hr), fun j hj => ?_⟩
  by_cases hji : j = i
  ·subst hji; exact hy.wpOp hi hS ⟨fun _ => hS, H⟩
  ·have := ready_mono hj hji
   rw [H.1] at this; cases this
 | succ f ih =>
  intro listed a w hfree hr hy hS H
  refine ⟨fun h => (by rw [h] at hr; cases hr), fun j hj => ?_⟩
  by_cases hji : j = i
  ·subst hji; exact hy.wpOp hi hS ⟨fun _ => hS, H⟩
  ·have h1 := H.2 j (ready_mono hj hji)
   obtain ⟨hun, oj, hoj, _⟩ := mem_ready.1 hj
   have hno := ready_nowait hr hj hoj
   have hDj : D j = false := by
    cases hd : D j with
    | false => rfl
    | true =>
     obtain ⟨e, he, hb, ho⟩ := waits_spec hw hoj hd
     exact absurd ho (hno e he hb)
   have h2 := wpOp_putIf hoj (hfree j oj hoj hji hun hno) (fun cs b => hsel i oi cs b hi) (fun cs b => hsel j oj cs b hoj) hQ hy h1
   refine wpOp_mono (fun a' w' g => ⟨g.2.1, ih (listed.setIfInBounds j true) a' w' ?_ (ready_mono hr (Ne.symm hji)) g.1 (g.2.1 hDj) ?_⟩) h2
   ·intro k ok hk hki hunk hnok
    refine hfree k ok hk hki ?_ hnok
    by_cases hjk : j = k
    ·subst hjk; exact hun
    ·rw [getD_set_ne true hjk] at hunk; exact hunk
   ·rw [Array.setIfInBounds_comm _ _ hji]; exact g.2.2
theorem wpTill_take {i : Nat} {oi : Oper} {v : Value} {f : Nat} {listed : Array Bool} {a : Act} {w : World} (hi : ops[i]? = some oi)
  (hs : Region.noSelect ops = true) (hf : Region.free md ops listed i = true) (hr : (Region.ready md ops listed).contains i = true) (hw : waits md ops D i = true)
  (hQ : ∀ c a w, Q (.panic c) (a.put oi.dst v) w → Q (.panic c) a w) (hy : YieldsIf P ops S oi v a) (hS : S w)
  (h : wpTill P md ops Q S D f (listed.setIfInBounds i true) (a.put oi.dst v) w) : wpTill P md ops Q S D (f + 1) listed a w :=
 wpTill_first hi (Region.noSelect_spec hs) hQ hw f listed a w (Region.free_spec hi hf) (by simpa using hr) hy hS h
theorem wpTill_op {i : Nat} {o : Oper} {f : Nat} {listed : Array Bool} {a : Act} {w : World} (hr : Region.ready md ops listed = [i]) (ho : ops[i]? = some o)
  (h : ∀ K' : Act → World → Prop, Shut (∀ a w, (D i = false → S w) → wpTill P md ops Q S D f (listed.setIfInBounds i true) a w → K' a w) → if Region.wanted o (yielded ops a.tmps) = true then Oper.wp P o a w K' Q else K' (a.put o.dst undef) w) :
  wpTill P md ops Q S D (f + 1) listed a w :=
 ⟨fun h0 => (by rw [hr] at h0; cases h0), fun j hj => by
  rw [hr] at hj
  rcases List.mem_cons.1 hj with rfl | hj
  ·exact wpOp_step ho (fun K' hK => h K' (fun a w hS hW => hK a w ⟨hS, hW⟩))
  ·cases hj⟩
theorem wpTill_two {i j : Nat} {o p : Oper} {f : Nat} {listed : Array Bool} {a : Act} {w : World} (hr : Region.ready md ops listed = [i, j]) (ho : ops[i]? = some o) (hp : ops[j]? = some p)
  (h : ∀ K' : Act → World → Prop, Shut (∀ a w, (D i = false → S w) → wpTill P md ops Q S D f (listed.setIfInBounds i true) a w → K' a w) → if Region.wanted o (yielded ops a.tmps) = true then Oper.wp P o a w K' Q else K' (a.put o.dst undef) w)
  (g : ∀ K' : Act → World → Prop, Shut (∀ a w, (D j = false → S w) → wpTill P md ops Q S D f (listed.setIfInBounds j true) a w → K' a w) → if Region.wanted p (yielded ops a.tmps) = true then Oper.wp P p a w K' Q else K' (a.put p.dst undef) w) :
  wpTill P md ops Q S D (f + 1) listed a w :=
 ⟨fun h0 => (by rw [hr] at h0; cases h0), fun k hk => by
  rw [hr] at hk
  rcases List.mem_cons.1 hk with rfl | hk
  ·exact wpOp_step ho (fun K' hK => h K' (fun a w hS hW => hK a w ⟨hS, hW⟩))
  ·rcases List.mem_cons.1 hk with rfl | hk
   ·exact wpOp_step hp (fun K' hK => g K' (fun a w hS hW => hK a w ⟨hS, hW⟩))
   ·cases hk⟩
theorem wpTill_done {listed : Array Bool} {a : Act} {w : World} (hr : Region.ready md ops listed = []) (h : Q .normal a w) : ∀ f, wpTill P md ops Q S D f listed a w
 | 0 => ⟨hr, h⟩
 | _ + 1 => ⟨fun _ => h, by rw [hr]; simp⟩
theorem wp_region_till {id : Nat} {a : Act} {w : World} (S : World → Prop) (D : Nat → Bool) (hm : P.follows .mixedOrders = true)
  (h : wpTill P .any ops Q S D ops.size (Array.replicate ops.size false) a w.drew) : (Code.region id ops true).wp P Q a w :=
 wp_region_any hm (wpTill_any _ _ _ _ h)
theorem step_append_own {o : Oper} {a : Act} {w : World} {K : Act → World → Prop} {E : Prop} (hgd : o.guard = none) (s x : Operand) (t : TypeId)
  (ho : o.op = .call { callee := .builtin .append, args := #[s, x], argTypes := #[t, t] })
  (base : Nat) (e : TypeId) (i : TypeInfo) (z : Value) (size bytes : Nat) (ht : P.underlying t = some (.slice e)) (hi : P.info? e = some i) (hz : i.zero = some z)
  (hsize : i.size = size) (hby : i.bytes = bytes) (hzs : z.cells.size = size) (hsz : 0 < size)
  (v : Value) (n : Nat) (xs : List Value) (hs : a.eval s = v) (hown : w.ownsRow base e size v n xs)
  (ad : Addr) (m c : Nat) (news : List Value) (hx : a.eval x = .slice (some ad) m c) (hl : news.length = m * size) (hnews : ∀ j u, news[j]? = some u → w.cell? (ad.add j) = some u) (h1 : ∀ u ∈ news, u.oneCell' = true)
  (h63 : n + m ≤ maxLen) (hbytes : (n + m) * bytes ≤ 140737488355328) (hbase : base ≤ w.heap.size)
  (h : ∀ v' w', w'.ownsRow base e size v' (n + m) (xs ++ news) → w.grownBy w' v.ownBlock → (v' = .slice none 0 0 ↔ v = .slice none 0 0 ∧ m = 0) → K (a.put o.dst v') w') :
  if Region.wanted o (yielded ops a.tmps) = true then Oper.wp P o a w K Q else E := by
 have hw : Region.wanted o (yielded ops a.tmps) = true := by simp [Region.wanted, hgd]
 rw [if_pos hw]
 exact wp_append_own w s x t ho base e i z size bytes ht hi hz hsize hby hzs hsz v n xs hs hown ad m c news hx hl hnews h1 h63 hbytes hbase fun v' w' h2 h3 h4 => h v' w' h2 h3 h4
theorem step_append_none {o : Oper} {a : Act} {w : World} {K : Act → World → Prop} {E : Prop} (hgd : o.guard = none) (s x : Operand) (t : TypeId)
  (ho : o.op = .call { callee := .builtin .append, args := #[s, x], argTypes := #[t, t] })
  (base : Nat) (e : TypeId) (i : TypeInfo) (size : Nat) (ht : P.underlying t = some (.slice e)) (hi : P.info? e = some i)
  (v : Value) (n : Nat) (xs : List Value) (hs : a.eval s = v) (hown : w.ownsRow base e size v n xs) (hx : a.eval x = .slice none 0 0)
  (h : K (a.put o.dst v) w) : if Region.wanted o (yielded ops a.tmps) = true then Oper.wp P o a w K Q else E := by
 have hw : Region.wanted o (yielded ops a.tmps) = true := by simp [Region.wanted, hgd]
 rw [if_pos hw]
 have hrun := run_append_owned_none (P := P) (w := w) base t o.type e i size ht hi v n xs hown
 unfold Oper.wp
 simp [execOp, ho, resolve, invoke, builtin, hs, hx, hrun, Result.andThen]
 exact h
theorem step_store_row {o : Oper} {a : Act} {w : World} {K : Act → World → Prop} {E : Prop} (hgd : o.guard = none) (ty : TypeId) (x y : Operand) (ho : o.op = .store ty x y)
  (g : Nat) (cells : Array Value) (hx : a.eval x = .pointer (some ⟨g, 0, none⟩)) (hy : a.eval y = .agg cells)
  (t : TypeId) (old : Array Value) (hg : w.heap[g]? = some (.cells old t (0, 0))) (hi : (P.info? ty).map (·.size) = some cells.size)
  (hold : old.size = cells.size) (h1 : cells.all (·.oneCell') = true)
  (h : K (a.put o.dst undef) (w.setRow g cells)) : if Region.wanted o (yielded ops a.tmps) = true then Oper.wp P o a w K Q else E := by
 have hw : Region.wanted o (yielded ops a.tmps) = true := by simp [Region.wanted, hgd]
 rw [if_pos hw]
 exact wp_store_row ty x y ho g cells hx hy t old hg hi hold h1 h
theorem step_append_any {o : Oper} {a : Act} {w : World} {K : Act → World → Prop} {E : Prop} (hgd : o.guard = none) (s x : Operand) (t : TypeId)
  (ho : o.op = .call { callee := .builtin .append, args := #[s, x], argTypes := #[t, t] })
  (base : Nat) (e : TypeId) (i : TypeInfo) (z : Value) (size bytes : Nat) (ht : P.underlying t = some (.slice e)) (hi : P.info? e = some i) (hz : i.zero = some z)
  (hsize : i.size = size) (hby : i.bytes = bytes) (hzs : z.cells.size = size) (hsz : 0 < size)
  (v : Value) (n : Nat) (xs : List Value) (hs : a.eval s = v) (hown : w.ownsRow base e size v n xs)
  (a' : Option Addr) (m c : Nat) (news : List Value) (hx : a.eval x = .slice a' m c) (hnil : a' = none → m = 0 ∧ c = 0) (hl : news.length = m * size) (hnews : ∀ ad, a' = some ad → ∀ j u, news[j]? = some u → w.cell? (ad.add j) = some u) (h1 : ∀ u ∈ news, u.oneCell' = true)
  (h63 : n + m ≤ maxLen) (hbytes : (n + m) * bytes ≤ 140737488355328) (hbase : base ≤ w.heap.size)
  (h : ∀ v' w', w'.ownsRow base e size v' (n + m) (xs ++ news) → w.grownBy w' v.ownBlock → K (a.put o.dst v') w') :
  if Region.wanted o (yielded ops a.tmps) = true then Oper.wp P o a w K Q else E := by
 cases a' with
 | none =>
  obtain ⟨rfl, rfl⟩ := hnil rfl
  have hn : news = [] := List.eq_nil_of_length_eq_zero (by simpa using hl)
  subst hn
  exact step_append_none hgd s x t ho base e i size ht hi v n xs hs hown hx (h v w (by simpa using hown) ⟨rfl, rfl, rfl, Nat.le_refl _, fun _ _ _ => rfl⟩)
 | some ad => exact step_append_own hgd s x t ho base e i z size bytes ht hi hz hsize hby hzs hsz v n xs hs hown ad m c news hx hl (hnews ad rfl) h1 h63 hbytes hbase fun v' w' h2 h3 _ => h v' w' h2 h3
theorem wpList_append_any {o : Oper} {rest : List Oper} {a : Act} {w : World} (hgd : o.guard = none) (s x : Operand) (t : TypeId)
  (ho : o.op = .call { callee := .builtin .append, args := #[s, x], argTypes := #[t, t] })
  (base : Nat) (e : TypeId) (i : TypeInfo) (z : Value) (size bytes : Nat) (ht : P.underlying t = some (.slice e)) (hi : P.info? e = some i) (hz : i.zero = some z)
  (hsize : i.size = size) (hby : i.bytes = bytes) (hzs : z.cells.size = size) (hsz : 0 < size)
  (v : Value) (n : Nat) (xs : List Value) (hs : a.eval s = v) (hown : w.ownsRow base e size v n xs)
  (a' : Option Addr) (m c : Nat) (news : List Value) (hx : a.eval x = .slice a' m c) (hnil : a' = none → m = 0 ∧ c = 0) (hl : news.length = m * size) (hnews : ∀ ad, a' = some ad → ∀ j u, news[j]? = some u → w.cell? (ad.add j) = some u) (h1 : ∀ u ∈ news, u.oneCell' = true)
  (h63 : n + m ≤ maxLen) (hbytes : (n + m) * bytes ≤ 140737488355328) (hbase : base ≤ w.heap.size)
  (h : ∀ v' w', w'.ownsRow base e size v' (n + m) (xs ++ news) → w.grownBy w' v.ownBlock → wpList P ops Q rest (a.put o.dst v') w') : wpList P ops Q (o :: rest) a w := by
 cases a' with
 | none =>
  obtain ⟨rfl, rfl⟩ := hnil rfl
  have hn : news = [] := List.eq_nil_of_length_eq_zero (by simpa using hl)
  subst hn
  exact wpList_append_own_none hgd s x t ho base e i size ht hi v n xs hs hown hx (h v w (by simpa using hown) ⟨rfl, rfl, rfl, Nat.le_refl _, fun _ _ _ => rfl⟩)
 | some ad => exact wpList_append_own w hgd s x t ho base e i z size bytes ht hi hz hsize hby hzs hsz v n xs hs hown ad m c news hx hl (hnews ad rfl) h1 h63 hbytes hbase fun v' w' h2 h3 _ => h v' w' h2 h3
end
def Cells (l : List (Addr × Value)) (w : World) : Prop := ∀ q ∈ l, w.cell? q.1 = some q.2
theorem cells_nil (w : World) : Cells [] w ↔ True := by simp [Cells]
theorem cells_cons (q : Addr × Value) (l : List (Addr × Value)) (w : World) : Cells (q :: l) w ↔ w.cell? q.1 = some q.2 ∧ Cells l w := by simp [Cells]
theorem cells_mk {q : Addr} {v : Value} {l : List (Addr × Value)} {w : World} (h : w.cell? q = some v) (h' : Cells l w) : Cells ((q, v) :: l) w := (cells_cons _ _ _).2 ⟨h, h'⟩
theorem cells_no (w : World) : Cells [] w := (cells_nil w).2 trivial
theorem cell_alloc {w : World} {p : Addr} {v : Value} (o : Obj) (h : w.cell? p = some v) : (w.alloc o).cell? p = some v := by rw [World.cell?_alloc_some w p o (by rw [h]; rfl)]; exact h
theorem cell_grown {w w' : World} {p : Addr} {v : Value} {row : Option Nat} (hg : w.grownBy w' row) (h : w.cell? p = some v) (hne : row ≠ some p.block) : w'.cell? p = some v := by
 rw [World.cell?_of_block (a := p) (hg.block p.block (World.block_lt_of_cell? w _ h) (fun e => hne e.symm))]; exact h
theorem Cells.drew {l : List (Addr × Value)} {w : World} (h : Cells l w) : Cells l w.drew := fun q hq => h q hq
theorem Cells.alloc {l : List (Addr × Value)} {w : World} (h : Cells l w) (o : Obj) : Cells l (w.alloc o) := fun q hq => cell_alloc o (h q hq)
theorem Cells.below {l : List (Addr × Value)} {w w' : World} (h : Cells l w) (hb : Below w.heap.size w w') : Cells l w' := fun q hq => (hb.cell (World.block_lt_of_cell? w _ (h q hq))).trans (h q hq)
theorem Cells.grown {l : List (Addr × Value)} {w w' : World} {row : Option Nat} (h : Cells l w) (hg : w.grownBy w' row) (hr : ∀ q ∈ l, row ≠ some q.1.block) : Cells l w' := fun q hq => cell_grown hg (h q hq) (hr q hq)
theorem results_cell_tmp {fn : Func} {p q : Tmp} {ty : TypeId} (h : fn.results = #[.cell p ty, .tmp q]) {tmps : Array Value} {a : Addr} {u : Value} (hp : tmps.getD p undef = .pointer (some a)) (hq : tmps.getD q undef = u) {P : Program} {w : World} {v : Value} (hv : (loadVar ty a).run P w = .ok v w) : (results fn tmps).run P w = .ok (.tuple #[v, u]) w := by
 have hp' : tmps[p]?.getD undef = .pointer (some a) := by simpa using hp
 have hq' : tmps[q]?.getD undef = u := by simpa using hq
 simp only [results, h]
 simp [Sem.run_bind, Result.andThen, hp', hq', asAddr, hv]
theorem pre_at {cs more : List Value} {j : Nat} {u : Value} (h : cs[j]? = some u) : (cs ++ more)[j]? = some u := by
 have hl : j < cs.length := by
  rcases Nat.lt_or_ge j cs.length with h' | h'
  ·exact h'
  ·rw [List.getElem?_eq_none h'] at h; simp at h
 rw [List.getElem?_append_left hl, h]
end Go.Proofs.YtabdjimjelfbfaaGreat
namespace Go.Proofs.YtabdjimjelfbfaaGreat
open Go.ChangeShapes Go.WideShapes Go.ChangeAt Go.RowKit
section
variable {P : Program} {md : Region.Mode} {ops : Array Oper} {Q : Exit → Act → World → Prop} {S : World → Prop} {D : Nat → Bool}
theorem tk {i : Nat} {oi : Oper} {v : Value} {a2 : Act} {f : Nat} {listed : Array Bool} {a : Act} {w : World} (hS : S w) (h : wpTill P md ops Q S D f (listed.setIfInBounds i true) a2 w) (hi : ops[i]? = some oi := by rfl)
  (hs : Region.noSelect ops = true := by kernel_rfl) (hf : Region.free md ops listed i = true := by kernel_rfl) (hr : (Region.ready md ops listed).contains i = true := by kernel_rfl) (hw : waits md ops D i = true := by kernel_rfl)
  (hy : YieldsIf P ops S oi v a := by exact Or.inl ⟨by rfl, by (intro wq hq; (try simp only [cells_cons, cells_nil, and_true] at hq); first | (go_simp; done) | (go_simp; with_reducible rfl) | (obtain ⟨hq1, hq2⟩ := hq; go_simp; with_reducible rfl))⟩) (ha : a.put oi.dst v = a2 := by (try simp only [List.getElem_toArray, List.getElem_cons_succ, List.getElem_cons_zero, Act.put, List.setIfInBounds_toArray, List.set_cons_zero, List.set_cons_succ]); rfl)
  (hQ : ∀ c a w, Q (.panic c) (a.put oi.dst v) w → Q (.panic c) a w := by exact fun _ _ _ h => h) : wpTill P md ops Q S D (f + 1) listed a w :=
 wpTill_take hi hs hf hr hw hQ hy hS (ha ▸ h)
theorem tks {i : Nat} {oi : Oper} {a2 : Act} {f : Nat} {listed : Array Bool} {a : Act} {w : World} (hS : S w) (h : wpTill P md ops Q S D f (listed.setIfInBounds i true) a2 w) (hi : ops[i]? = some oi := by rfl)
  (hs : Region.noSelect ops = true := by kernel_rfl) (hf : Region.free md ops listed i = true := by kernel_rfl) (hr : (Region.ready md ops listed).contains i = true := by kernel_rfl) (hw : waits md ops D i = true := by kernel_rfl)
  (hy : YieldsIf P ops S oi undef a := by exact Or.inr ⟨by rfl, rfl⟩) (ha : a.put oi.dst undef = a2 := by (try simp only [List.getElem_toArray, List.getElem_cons_succ, List.getElem_cons_zero, Act.put, List.setIfInBounds_toArray, List.set_cons_zero, List.set_cons_succ]); rfl)
  (hQ : ∀ c a w, Q (.panic c) (a.put oi.dst undef) w → Q (.panic c) a w := by exact fun _ _ _ h => h) : wpTill P md ops Q S D (f + 1) listed a w :=
 wpTill_take hi hs hf hr hw hQ hy hS (ha ▸ h)
end
end Go.Proofs.YtabdjimjelfbfaaGreat
namespace Go.Proofs.YtabdjimjelfbfaaGreat
set_option linter.unusedSimpArgs false
set_option linter.unusedVariables false
open Go.ChangeShapes Go.WideShapes Go.ChangeAt Go.RowKit Go.BigFrame
theorem info_Shape : (Tryz.prog.info? 77).map (fun i => (i.zero, i.size, i.bytes)) = some (some (.agg #[.int .i64 0, .slice none 0 0]), 2, 32) := by kernel_rfl
theorem shs_at {w : World} {a : Option Addr} {xs : List Shp} (h : ShsC w a xs) {k : Nat} {x : Shp} (hx : xs[k]? = some x) : ∃ b off a' cap', a = some ⟨b, off, none⟩ ∧ b < w.heap.size ∧ w.cell? ⟨b, off + k * 2, none⟩ = some (.int .i64 x.id) ∧ w.cell? ⟨b, off + k * 2 + 1, none⟩ = some (.slice a' x.flds.length cap') ∧ Flds w a' x.flds ∧ (a' = none → cap' = 0) := h k x hx
theorem fresh_apart {w w1 : World} {base base1 n : Nat} {T TF : TypeId} {v : Value} {rs : List ShR} {xs : List Shp} {r : ShR} {L : List Value} (h : OwnShs w base T TF v n rs xs) (hb : w.heap.size ≤ base1) (hr : w1.ownsRow base1 TF 5 (.slice r.a r.n r.cap) r.n L) :
  ∀ (i : Nat) (s : ShR), rs[i]? = some s → ∀ g, (Value.slice s.a s.n s.cap).ownBlock = some g → (Value.slice r.a r.n r.cap).ownBlock ≠ some g := by
 intro i s hs g hg hrg
 have hi : i < n := by
  rcases Nat.lt_or_ge i rs.length with h' | h'
  ·rw [← h.len]; exact h'
  ·rw [List.getElem?_eq_none h'] at hs; simp at hs
 obtain ⟨x, hx⟩ : ∃ x, xs[i]? = some x := ⟨_, List.getElem?_eq_getElem (by rw [h.lenx]; exact hi)⟩
 have h1 := ((h.each i s x hs hx).2.2.lt g hg).2
 have h2 := (hr.lt g hrg).1
 omega
theorem OwnShs.alloc {w : World} {base n : Nat} {T TF : TypeId} {v : Value} {rs : List ShR} {xs : List Shp} (h : OwnShs w base T TF v n rs xs) (o : Obj) : OwnShs (w.alloc o) base T TF v n rs xs := OwnShs.below h (Below.refl _ _ |>.alloc (Nat.le_refl _) o) (Nat.le_refl _)
theorem RowIs.alloc {w : World} {base : Nat} {TF : TypeId} {r : ShR} {x : Shp} (h : RowIs w base TF r x) (o : Obj) : RowIs (w.alloc o) base TF r x := ⟨h.1, h.2.1, h.2.2.alloc o⟩
theorem OwnShs.drew {w : World} {base n : Nat} {T TF : TypeId} {v : Value} {rs : List ShR} {xs : List Shp} (h : OwnShs w base T TF v n rs xs) : OwnShs w.drew base T TF v n rs xs := OwnShs.below h (Below.refl _ _).drew (Nat.le_refl _)
theorem below_grown {B : Nat} {w0 w w' : World} {row : Option Nat} (hb : Below B w0 w) (hg : w.grownBy w' row) (hr : ∀ g, row = some g → B ≤ g) (hB : B ≤ w.heap.size) : Below B w0 w' :=
 hb.trans ⟨hg.os, hg.tape, hg.output, hg.size, fun k hk => hg.block k (by omega) (fun e => by have := hr k e.symm; omega)⟩
set_option maxRecDepth 100000 in
set_option maxHeartbeats 4000000 in
theorem copySchema_any (a : Option Addr) (cap n : Nat) (xs : List Shp) (w : World) (h : ShsC w a xs) (hx : xs.length = n) (hn : n ≤ 1048576) (hm : fldSum xs ≤ 1048576) :
  Calls Tryz.prog 125 #[.agg #[.slice a n cap]] w (FreshSch w 77 34 n xs) := by
 have HX := Lib.hid hx; clear hx
 have HSs := Lib.hid h; clear h
 obtain ⟨i0, hi, hj0, hj1, hj2⟩ := info_parts info_Shape
 go_enter Tryz.func125, Tryz.ntmps125
 go_wp2
 obtain ⟨B0, hB0⟩ : ∃ B0, B0 = w.heap.size := ⟨_, rfl⟩
 go_loopw [10] (fun i wr => ∃ k : Nat, k ≤ n ∧ i = .int .i64 k ∧ (∃ v rs, OwnShs wr (w.heap.size + 1 + 1 + 1) 77 34 v k rs (xs.take k) ∧ wr.heap[w.heap.size + 1 + 1]? = some (.cells #[v] 26 (0, 0))) ∧ wr.heap[w.heap.size + 1]? = some (.cells #[.slice none 0 0] 26 (0, 0)) ∧ Below w.heap.size w wr) (fun i _ => n - (intOf i).toNat)
 case atStart => exact ⟨0, Nat.zero_le _, rfl, ⟨.slice none 0 0, [], OwnShs.nil _ _ _ _, hset_new (by simp)⟩, hset_alloc (hset_new (by simp)), by exact bl⟩
 case round =>
  obtain ⟨k, hk, rfl, ⟨v, rs, ho, hO⟩, hR, hb⟩ := hrel
  have hz := hb.size
  have hOl := box_lt hO
  have hRl := box_lt hR
  have hO0 := box_cells hO 0
  have hOf := box_frozen hO 0
  have hR0 := box_cells hR 0
  have hRf := box_frozen hR 0
  simp only [List.getElem?_toArray, List.getElem?_cons_zero] at hR0
  simp only [List.getElem?_toArray, List.getElem?_cons_zero] at hO0
  have HO := Lib.hid ho; clear ho
  have HOx := Lib.hid hO; clear hO
  have HRx := Lib.hid hR; clear hR
  by_cases hlt : k < n
  ·obtain ⟨x, hx, _⟩ := at_lt (xs := xs) (k := k) (by rw [HX.out]; exact hlt)
   have hfl : x.flds.length ≤ 1048576 := by have := fldSum_ge hx; omega
   obtain ⟨b, off, a', cap', rfl, hbl, c0, c1, hfs, hnil⟩ := shs_at (ShsC.keep HSs.out hb) hx
   have hTK := Lib.hid (show xs.take (k + 1) = xs.take k ++ [x] by rw [List.take_add_one, hx]; rfl)
   have HF := Lib.hid hfs; clear hfs
   clear hx
   have hol := HO.out.outer.lt
   go_wp2_with fail
   refine wp_region_till (fun w' => w'.cell? ⟨w.heap.size + 1 + 1, 0, none⟩ = some v ∧ w'.cell? ⟨wr.heap.size, 0, none⟩ = some (.int .i64 x.id) ∧ w'.cell? ⟨wr.heap.size, 1, none⟩ = some (.slice a' x.flds.length cap')) (fun i => decide (11 ≤ i)) (by kernel_rfl) ?_
   have hS : (fun w' : World => w'.cell? ⟨w.heap.size + 1 + 1, 0, none⟩ = some v ∧ w'.cell? ⟨wr.heap.size, 0, none⟩ = some (.int .i64 x.id) ∧ w'.cell? ⟨wr.heap.size, 1, none⟩ = some (.slice a' x.flds.length cap')) (wr.alloc (.cells #[.int .i64 x.id, .slice a' x.flds.length cap'] 77)).drew := ⟨by go_keep, by go_keep, by go_keep⟩
   refine tk (i := 0) hS ?_
   refine tk (i := 1) hS ?_
   refine tk (i := 2) hS ?_
   refine tk (i := 3) hS ?_
   refine tk (i := 4) hS ?_
   refine tk (i := 5) hS ?_
   refine wpTill_op (i := 6) (by kernel_rfl) rfl (fun K hK => ?_)
   go_simp
   refine (cloneFld_any a' cap' x.flds.length x.flds _ (Sl.keep HF.out bl) rfl (by omega) hnil).mono ?_
   rintro r w1 ⟨a1, cap1, rfl, ho1, hb1⟩
   have hz1 := hb1.size
   simp only [World.size_alloc, World.size_drew] at hz1
   have hS1 : w1.cell? ⟨w.heap.size + 1 + 1, 0, none⟩ = some v ∧ w1.cell? ⟨wr.heap.size, 0, none⟩ = some (.int .i64 x.id) ∧ w1.cell? ⟨wr.heap.size, 1, none⟩ = some (.slice a' x.flds.length cap') :=
    ⟨(hb1.cell (p := ⟨_, _, none⟩) (by simp; omega)).trans hS.1, (hb1.cell (p := ⟨_, _, none⟩) (by simp)).trans hS.2.1, (hb1.cell (p := ⟨_, _, none⟩) (by simp)).trans hS.2.2⟩
   refine hK.out _ _ (fun _ => hS1) ?_
   clear hK K hS
   have hS := hS1; clear hS1
   have hbw1 : Below wr.heap.size wr w1 := by exact bl
   have hRow : RowIs w1 (w.heap.size + 1 + 1 + 1) 34 ⟨x.id, a1, x.flds.length, cap1⟩ x := ⟨rfl, rfl, owns_le ho1 (by simp; omega)⟩
   have hap := fresh_apart (r := ⟨x.id, a1, x.flds.length, cap1⟩) HO.out (by simp) ho1
   have HO1 := Lib.hid (OwnShs.below HO.out hbw1 (Nat.le_refl _)); clear HO
   have HRow := Lib.hid hRow; clear hRow ho1
   have HAP := Lib.hid hap; clear hap
   try simp only [Act.put, List.setIfInBounds_toArray, List.set_cons_zero, List.set_cons_succ]
   refine tk (i := 7) hS ?_
   refine wpTill_op (i := 8) (by kernel_rfl) rfl (fun K hK => ?_)
   go_simp
   have hS2 : (w1.alloc (.cells #[.int .i64 x.id, .slice a1 x.flds.length cap1] 77)).cell? ⟨w.heap.size + 1 + 1, 0, none⟩ = some v ∧ (w1.alloc (.cells #[.int .i64 x.id, .slice a1 x.flds.length cap1] 77)).cell? ⟨wr.heap.size, 0, none⟩ = some (.int .i64 x.id) ∧ (w1.alloc (.cells #[.int .i64 x.id, .slice a1 x.flds.length cap1] 77)).cell? ⟨wr.heap.size, 1, none⟩ = some (.slice a' x.flds.length cap') :=
    ⟨cell_alloc _ hS.1, cell_alloc _ hS.2.1, cell_alloc _ hS.2.2⟩
   refine hK.out _ _ (fun _ => hS2) ?_
   clear hK K hS
   have hS := hS2; clear hS2
   try simp only [Act.put, List.setIfInBounds_toArray, List.set_cons_zero, List.set_cons_succ]
   have HA1 := Lib.hid (HO1.out.alloc (.cells #[.int .i64 x.id, .slice a1 x.flds.length cap1] 77)); clear HO1
   have HRA := Lib.hid (HRow.out.alloc (.cells #[.int .i64 x.id, .slice a1 x.flds.length cap1] 77)); clear HRow
   have HNW := Lib.hid (World.news_of_block (cs := #[.int .i64 x.id, .slice a1 x.flds.length cap1]) (t := 77) (fr := (0, 0)) (heap_alloc_new w1 _))
   refine wpTill_op (i := 9) (by kernel_rfl) rfl (fun K hK => ?_)
   refine step_append_own rfl _ _ 24 rfl (w.heap.size + 1 + 1 + 1) 77 i0 _ 2 32 Tryz.underlying24 hi hj0 hj1 hj2 rfl (by decide) v k (rs.flatMap ShR.cs) rfl HA1.out.outer ⟨w1.heap.size, 0, none⟩ 1 1 [.int .i64 x.id, .slice a1 x.flds.length cap1] rfl rfl HNW.out (by simp [Value.oneCell']) (by unfold maxLen; omega) (by omega) (by simp; omega) ?_
   intro v2 w2 hown2 hgr2 _
   have hS2 : w2.cell? ⟨w.heap.size + 1 + 1, 0, none⟩ = some v ∧ w2.cell? ⟨wr.heap.size, 0, none⟩ = some (.int .i64 x.id) ∧ w2.cell? ⟨wr.heap.size, 1, none⟩ = some (.slice a' x.flds.length cap') :=
    ⟨cell_grown hgr2 hS.1 (fun e => by have := hol _ e; simp only at this; omega), cell_grown hgr2 hS.2.1 (fun e => by have := hol _ e; simp only at this; omega), cell_grown hgr2 hS.2.2 (fun e => by have := hol _ e; simp only at this; omega)⟩
   refine hK.out _ _ (fun _ => hS2) ?_
   clear hK K hS
   have hS := hS2; clear hS2
   try simp only [Act.put, List.setIfInBounds_toArray, List.set_cons_zero, List.set_cons_succ]
   obtain ⟨a3, cap3, rfl, _⟩ := own_sh hown2
   have hsz2 := hgr2.size
   simp only [World.size_alloc] at hsz2
   have HP := Lib.hid (HA1.out.push (w' := w2) (by decide) HRA.out HAP.out hown2 hgr2)
   have hb2 : Below (w.heap.size + 1 + 1 + 1) wr w2 := below_grown (show Below (w.heap.size + 1 + 1 + 1) wr _ from (hbw1.mono (by omega)).alloc (by omega) _) hgr2 (fun g e => (hol g e).1) (by simp; omega)
   have hz2 := hb2.size
   have hO2 : w2.heap[w.heap.size + 1 + 1]? = some (.cells #[v] 26 (0, 0)) := (hb2.block _ (by omega)).trans HOx.out
   have hR2 : w2.heap[w.heap.size + 1]? = some (.cells #[.slice none 0 0] 26 (0, 0)) := (hb2.block _ (by omega)).trans HRx.out
   have hOf2 := box_frozen hO2 0
   have HO2 := Lib.hid hO2; clear hO2
   have HR2 := Lib.hid hR2; clear hR2
   clear hgr2 hown2
   refine tk (i := 10) hS ?_
   refine wpTill_op (i := 11) (by kernel_rfl) rfl (fun K hK => ?_)
   go_simp
   refine hK.out _ _ (fun e => by cases e) ?_
   clear hK K
   refine wpTill_done (by kernel_rfl) ?_ _
   go_wp2
   go_roundw
   case rel =>
    refine ⟨k + 1, by omega, by go_num, ⟨.slice a3 (k + 1) cap3, rs ++ [⟨x.id, a1, x.flds.length, cap1⟩], ?_, ?_⟩, ?_, ?_⟩
    ·rw [hTK.out]; exact HP.out.set (by simp) _
    ·exact hset_same HO2.out rfl
    ·exact hset_other HR2.out (by simp)
    ·exact ((hb.trans (hb2.mono (by omega)))).setCell (by simp; omega) _
   case measure => simp [intOf]; omega
  ·obtain rfl : k = n := by omega
   obtain ⟨a2, cap2, rfl, ho2⟩ := own_sh HO.out.outer
   have HF2 := Lib.hid (show OwnShs wr (w.heap.size + 1 + 1 + 1) 77 34 (.slice a2 k cap2) k rs xs by have := HO.out; rw [List.take_of_length_le (by rw [HX.out]; omega)] at this; exact this)
   clear HO ho2
   go_wp2
   refine bodyPost_ret (v := .agg #[.slice a2 k cap2]) (by have hRs := World.cell?_setCell_same wr ⟨w.heap.size + 1, 0, none⟩ (.slice a2 k cap2) hR0; simp [results, Tryz.results125, go_sem, hRs]) rfl ⟨a2, cap2, rs, rfl, OwnShs.le (HF2.out.set (by simp) _) (by omega), by exact bl⟩
set_option maxRecDepth 100000 in
set_option maxHeartbeats 4000000 in
theorem l8Copy_any (a : Option Addr) (cap n : Nat) (xs : List Shp) (w : World) (h : ShsC w a xs) (hx : xs.length = n) (hn : n ≤ 1048576) (hm : fldSum xs ≤ 1048576) :
  Calls Tryz.prog 84 #[.agg #[.slice a n cap]] w (FreshSch w 77 34 n xs) := by
 have HX := Lib.hid hx; clear hx
 have HSs := Lib.hid h; clear h
 obtain ⟨i0, hi, hj0, hj1, hj2⟩ := info_parts info_Shape
 go_enter Tryz.func84, Tryz.ntmps84
 go_wp2
 obtain ⟨B0, hB0⟩ : ∃ B0, B0 = w.heap.size := ⟨_, rfl⟩
 go_loopw [4] (fun i wr => ∃ k : Nat, k ≤ n ∧ i = .int .i64 k ∧ (∃ v rs, OwnShs wr (w.heap.size + 1 + 1 + 1) 77 34 v k rs (xs.take k) ∧ wr.heap[w.heap.size + 1 + 1]? = some (.cells #[v] 26 (0, 0))) ∧ wr.heap[w.heap.size + 1]? = some (.cells #[.slice none 0 0] 26 (0, 0)) ∧ wr.heap[w.heap.size]? = some (.cells #[.slice a n cap] 26 (0, 0)) ∧ Below w.heap.size w wr) (fun i _ => n - (intOf i).toNat)
 case atStart => exact ⟨0, Nat.zero_le _, rfl, ⟨.slice none 0 0, [], OwnShs.nil _ _ _ _, hset_new (by simp)⟩, hset_alloc (hset_new (by simp)), hset_alloc (hset_alloc (hset_new rfl)), by exact bl⟩
 case round =>
  obtain ⟨k, hk, rfl, ⟨v, rs, ho, hO⟩, hR, hA, hb⟩ := hrel
  have hA0 := box_cells hA 0
  simp only [List.getElem?_toArray, List.getElem?_cons_zero] at hA0
  have HAx := Lib.hid hA; clear hA
  have hz := hb.size
  have hOl := box_lt hO
  have hRl := box_lt hR
  have hO0 := box_cells hO 0
  have hOf := box_frozen hO 0
  have hR0 := box_cells hR 0
  have hRf := box_frozen hR 0
  simp only [List.getElem?_toArray, List.getElem?_cons_zero] at hR0
  simp only [List.getElem?_toArray, List.getElem?_cons_zero] at hO0
  have HO := Lib.hid ho; clear ho
  have HOx := Lib.hid hO; clear hO
  have HRx := Lib.hid hR; clear hR
  by_cases hlt : k < n
  ·obtain ⟨x, hx, _⟩ := at_lt (xs := xs) (k := k) (by rw [HX.out]; exact hlt)
   have hfl : x.flds.length ≤ 1048576 := by have := fldSum_ge hx; omega
   obtain ⟨b, off, a', cap', rfl, hbl, c0, c1, hfs, hnil⟩ := shs_at HSs.out hx
   have hTK := Lib.hid (show xs.take (k + 1) = xs.take k ++ [x] by rw [List.take_add_one, hx]; rfl)
   have HF := Lib.hid hfs; clear hfs
   have d0 := (hb.cell (p := ⟨b, _, none⟩) hbl).trans c0
   have d1 := (hb.cell (p := ⟨b, _, none⟩) hbl).trans c1
   obtain ⟨j0, hj, hk0, hk1, hk2⟩ := info_parts info_Field
   clear hx
   have hol := HO.out.outer.lt
   go_wp2_with fail
   have hki : (k : Int) < (n : Int) := by omega
   refine wp_region_till (Cells [(⟨w.heap.size + 1 + 1, 0, none⟩, v), (⟨w.heap.size, 0, none⟩, .slice (some ⟨b, off, none⟩) n cap), (⟨b, off + k * 2, none⟩, .int .i64 x.id), (⟨b, off + k * 2 + 1, none⟩, .slice a' x.flds.length cap')]) (fun i => decide (20 ≤ i)) (by kernel_rfl) ?_
   have hS : Cells [(⟨w.heap.size + 1 + 1, 0, none⟩, v), (⟨w.heap.size, 0, none⟩, .slice (some ⟨b, off, none⟩) n cap), (⟨b, off + k * 2, none⟩, .int .i64 x.id), (⟨b, off + k * 2 + 1, none⟩, .slice a' x.flds.length cap')] wr.drew := cells_mk hO0 (cells_mk hA0 (cells_mk d0 (cells_mk d1 (cells_no _))))
   have hblk : ∀ q ∈ ([(⟨w.heap.size + 1 + 1, 0, none⟩, v), (⟨w.heap.size, 0, none⟩, .slice (some ⟨b, off, none⟩) n cap), (⟨b, off + k * 2, none⟩, .int .i64 x.id), (⟨b, off + k * 2 + 1, none⟩, .slice a' x.flds.length cap')] : List (Addr × Value)), q.1.block < w.heap.size + 1 + 1 + 1 := by intro q hq; simp only [List.mem_cons, List.not_mem_nil, or_false] at hq; rcases hq with rfl | rfl | rfl | rfl <;> simp <;> omega
   refine tk (i := 0) hS ?_
   refine tk (i := 1) hS ?_
   refine tk (i := 2) hS ?_
   refine tk (i := 3) hS ?_
   refine tk (i := 4) hS ?_
   refine tk (i := 5) hS ?_
   refine tk (i := 6) hS ?_
   refine tk (i := 7) hS ?_
   refine tk (i := 9) hS ?_
   refine tk (i := 10) hS ?_
   refine tk (i := 11) hS ?_
   refine tk (i := 12) hS ?_
   refine tk (i := 13) hS ?_
   refine tk (i := 14) hS ?_
   refine wpTill_op (i := 8) (by kernel_rfl) rfl (fun K hK => ?_)
   go_simp
   refine hK.out _ _ (fun _ => hS.alloc _) ?_
   clear hK K
   have hS1 := hS.alloc (.cells #[] 34); clear hS; have hS := hS1; clear hS1
   try simp only [Act.put, List.setIfInBounds_toArray, List.set_cons_zero, List.set_cons_succ]
   have HB := Lib.hid (own_built wr.drew 34 5)
   have HN := Lib.hid (fun (ad : Addr) (ha : a' = some ad) => sl_news (w := wr.drew.alloc (.cells #[] 34)) (cs := Fld.cs) (xs := x.flds) (by omega) fld_len (by rw [← ha]; exact Sl.keep HF.out bl))
   have hnil2 : a' = none → x.flds.length = 0 ∧ cap' = 0 := fun e => ⟨by have := HF.out; rw [e] at this; rw [sl_none this]; rfl, hnil e⟩
   refine wpTill_op (i := 15) (by kernel_rfl) rfl (fun K hK => ?_)
   refine step_append_any rfl _ _ 75 rfl wr.heap.size 34 j0 _ 5 32 Tryz.underlying75 hj hk0 hk1 hk2 rfl (by decide) _ 0 [] rfl HB.out a' x.flds.length cap' (x.flds.flatMap Fld.cs) rfl hnil2 (by rw [flatMap_len fld_len]) HN.out (flat_one fld_one _) (by unfold maxLen; omega) (by omega) (by simp) ?_
   intro v1 w1 hown1 hgr1
   obtain ⟨a1, cap1, rfl, _⟩ := own_sh hown1
   simp only [Nat.zero_add, List.nil_append] at hown1
   have hS1 := hS.grown hgr1 (fun q hq e => by have := hblk q hq; have e' : wr.heap.size = q.1.block := Option.some.inj e; omega)
   refine hK.out _ _ (fun _ => hS1) ?_
   clear hK K hS
   have hS := hS1; clear hS1
   simp only [Nat.zero_add]
   try simp only [Act.put, List.setIfInBounds_toArray, List.set_cons_zero, List.set_cons_succ]
   have hbw1 : Below wr.heap.size wr w1 := below_grown bl hgr1 (fun g e => by have e' : wr.heap.size = g := Option.some.inj e; omega) (by simp)
   have hz1 := hbw1.size
   have hRow : RowIs w1 (w.heap.size + 1 + 1 + 1) 34 ⟨x.id, a1, x.flds.length, cap1⟩ x := ⟨rfl, rfl, owns_le hown1 (by omega)⟩
   have hap := fresh_apart (r := ⟨x.id, a1, x.flds.length, cap1⟩) HO.out (Nat.le_refl _) hown1
   have HO1 := Lib.hid (OwnShs.below HO.out hbw1 (Nat.le_refl _)); clear HO
   have HRow := Lib.hid hRow; clear hRow hown1
   have HAP := Lib.hid hap; clear hap hgr1
   refine tk (i := 16) hS ?_
   refine wpTill_op (i := 17) (by kernel_rfl) rfl (fun K hK => ?_)
   go_simp
   refine hK.out _ _ (fun _ => hS.alloc _) ?_
   clear hK K
   have hS1 := hS.alloc (.cells #[.int .i64 x.id, .slice a1 x.flds.length cap1] 77); clear hS; have hS := hS1; clear hS1
   try simp only [Act.put, List.setIfInBounds_toArray, List.set_cons_zero, List.set_cons_succ]
   have HA1 := Lib.hid (HO1.out.alloc (.cells #[.int .i64 x.id, .slice a1 x.flds.length cap1] 77)); clear HO1
   have HRA := Lib.hid (HRow.out.alloc (.cells #[.int .i64 x.id, .slice a1 x.flds.length cap1] 77)); clear HRow
   have HNW := Lib.hid (World.news_of_block (cs := #[.int .i64 x.id, .slice a1 x.flds.length cap1]) (t := 77) (fr := (0, 0)) (heap_alloc_new w1 _))
   refine wpTill_op (i := 18) (by kernel_rfl) rfl (fun K hK => ?_)
   refine step_append_own rfl _ _ 24 rfl (w.heap.size + 1 + 1 + 1) 77 i0 _ 2 32 Tryz.underlying24 hi hj0 hj1 hj2 rfl (by decide) v k (rs.flatMap ShR.cs) rfl HA1.out.outer ⟨w1.heap.size, 0, none⟩ 1 1 [.int .i64 x.id, .slice a1 x.flds.length cap1] rfl rfl HNW.out (by simp [Value.oneCell']) (by unfold maxLen; omega) (by omega) (by simp; omega) ?_
   intro v2 w2 hown2 hgr2 _
   have hS1 := hS.grown hgr2 (fun q hq e => by have := hblk q hq; have := (hol _ e).1; omega)
   refine hK.out _ _ (fun _ => hS1) ?_
   clear hK K hS
   have hS := hS1; clear hS1
   try simp only [Act.put, List.setIfInBounds_toArray, List.set_cons_zero, List.set_cons_succ]
   obtain ⟨a3, cap3, rfl, _⟩ := own_sh hown2
   have hsz2 := hgr2.size
   simp only [World.size_alloc] at hsz2
   have HP := Lib.hid (HA1.out.push (w' := w2) (by decide) HRA.out HAP.out hown2 hgr2)
   have hb2 : Below (w.heap.size + 1 + 1 + 1) wr w2 := below_grown (show Below (w.heap.size + 1 + 1 + 1) wr _ from (hbw1.mono (by omega)).alloc (by omega) _) hgr2 (fun g e => (hol g e).1) (by simp; omega)
   have hz2 := hb2.size
   have hO2 : w2.heap[w.heap.size + 1 + 1]? = some (.cells #[v] 26 (0, 0)) := (hb2.block _ (by omega)).trans HOx.out
   have hR2 : w2.heap[w.heap.size + 1]? = some (.cells #[.slice none 0 0] 26 (0, 0)) := (hb2.block _ (by omega)).trans HRx.out
   have hA2 : w2.heap[w.heap.size]? = some (.cells #[.slice (some ⟨b, off, none⟩) n cap] 26 (0, 0)) := (hb2.block _ (by omega)).trans HAx.out
   have hOf2 := box_frozen hO2 0
   have hO20 := box_cells hO2 0
   simp only [List.getElem?_toArray, List.getElem?_cons_zero] at hO20
   have HO2 := Lib.hid hO2; clear hO2
   have HR2 := Lib.hid hR2; clear hR2
   have HA2 := Lib.hid hA2; clear hA2
   clear hgr2 hown2
   refine tk (i := 19) hS ?_
   refine wpTill_op (i := 20) (by kernel_rfl) rfl (fun K hK => ?_)
   go_simp
   refine hK.out _ _ (fun e => by cases e) ?_
   clear hK K
   refine wpTill_done (by kernel_rfl) ?_ _
   go_wp2
   go_roundw
   case rel =>
    refine ⟨k + 1, by omega, by go_num, ⟨.slice a3 (k + 1) cap3, rs ++ [⟨x.id, a1, x.flds.length, cap1⟩], ?_, ?_⟩, ?_, ?_, ?_⟩
    ·rw [hTK.out]; exact HP.out.set (by simp) _
    ·exact hset_same HO2.out rfl
    ·exact hset_other HR2.out (by simp)
    ·exact hset_other HA2.out (by simp; omega)
    ·exact ((hb.trans (hb2.mono (by omega)))).setCell (by simp; omega) _
   case measure => simp [intOf]; omega
  ·obtain rfl : k = n := by omega
   obtain ⟨a2, cap2, rfl, ho2⟩ := own_sh HO.out.outer
   have HF2 := Lib.hid (show OwnShs wr (w.heap.size + 1 + 1 + 1) 77 34 (.slice a2 k cap2) k rs xs by have := HO.out; rw [List.take_of_length_le (by rw [HX.out]; omega)] at this; exact this)
   clear HO ho2
   go_wp2
   refine bodyPost_ret (v := .agg #[.slice a2 k cap2]) (by have hRs := World.cell?_setCell_same wr ⟨w.heap.size + 1, 0, none⟩ (.slice a2 k cap2) hR0; simp [results, Tryz.results84, go_sem, hRs]) rfl ⟨a2, cap2, rs, rfl, OwnShs.le (HF2.out.set (by simp) _) (by omega), by exact bl⟩
theorem results_cell {fn : Func} {p : Tmp} {ty : TypeId} (h : fn.results = #[.cell p ty]) {tmps : Array Value} {a : Addr} (hp : tmps.getD p undef = .pointer (some a)) {P : Program} {w : World} {v : Value} (hv : (loadVar ty a).run P w = .ok v w) : (results fn tmps).run P w = .ok v w := by
 have hp' : tmps[p]?.getD undef = .pointer (some a) := by simpa using hp
 simp only [results, h]
 simp [Sem.run_bind, Result.andThen, hp', asAddr, hv]
theorem range_of_cells {w : World} {b : Nat} {cs : List Value} (h : ∀ i, w.cell? ⟨b, i, none⟩ = (cs.toArray)[i]?) : w.rangeAt b 0 cs := by
 intro j u hj
 rw [Nat.zero_add, h]; simpa using hj
theorem range_of_box {w : World} {b : Nat} {cs : List Value} {t : TypeId} (h : w.heap[b]? = some (.cells cs.toArray t (0, 0))) : w.rangeAt b 0 cs := by
 intro j u hj
 simp [World.cell?, h, hj]
theorem size_Dec : (Tryz.prog.info? 40).map (·.size) = some 27 := by kernel_rfl
theorem one_Dec (d : Dc) (a b : Option Addr) (n c m e : Nat) : ((Dc.cl d (.slice a n c) (.slice b m e)).toArray : Array Value).all (·.oneCell') = true := by simp [Value.oneCell']
end Go.Proofs.YtabdjimjelfbfaaGreat
namespace Go.Proofs.YtabdjimjelfbfaaGreat
open Go.ChangeShapes Go.WideShapes Go.ChangeAt Go.RowKit Go.BigFrame
section
variable {ops : Array Oper} {rest : List Oper} {op : Oper} {a : Act} {w : World} {Q : Exit → Act → World → Prop} {x y : Operand}
theorem wlm (b : Nat) (cs : List Value) (hc : w.rangeAt b 0 cs) (h : wpList Tryz.prog ops Q rest (a.put op.dst (.agg cs.toArray)) w) (hgd : op.guard = none := by rfl) (ho : op.op = .load 40 x := by rfl) (hx : a.eval x = .pointer (some ⟨b, 0, none⟩) := by rfl) (hi : cs.length = 27 := by rfl) : wpList Tryz.prog ops Q (op :: rest) a w :=
 wpList_load_mid hgd 40 x ho b 0 hx cs _ hc Tryz.underlying40 rfl (by rw [size_Dec, hi]) h
theorem wla (b : Nat) (cs : List Value) (h : wpList Tryz.prog ops Q rest (a.put op.dst (.agg cs.toArray)) w) (hgd : op.guard = none := by rfl) (ho : op.op = .load 40 x := by rfl) (hx : a.eval x = .pointer (some ⟨b, 0, none⟩) := by rfl) (hc : w.rangeAt b 0 cs := by exact range_of_cells (by assumption)) (hi : cs.length = 27 := by rfl) : wpList Tryz.prog ops Q (op :: rest) a w :=
 wpList_load_mid hgd 40 x ho b 0 hx cs _ hc Tryz.underlying40 rfl (by rw [size_Dec, hi]) h
theorem wsr (g : Nat) (cells : Array Value) (hg : w.heap[g]? = some (.cells dz0.toArray 40 (0, 0))) (h : wpList Tryz.prog ops Q rest (a.put op.dst undef) (w.setRow g cells)) (hgd : op.guard = none := by rfl) (ho : op.op = .store 40 x y := by rfl) (hx : a.eval x = .pointer (some ⟨g, 0, none⟩) := by rfl) (hy : a.eval y = .agg cells := by rfl) (hi : 27 = cells.size := by rfl) (h1 : cells.all (·.oneCell') = true := by simp [Value.oneCell']) : wpList Tryz.prog ops Q (op :: rest) a w :=
 wpList_store_row hgd 40 x y ho g cells hx hy 40 dz0.toArray hg (by rw [← hi]; exact size_Dec) hi h1 h
theorem wsq (g : Nat) (cells : Array Value) (hg : w.heap[g]? = some (.cells dz0.toArray 40 (0, 0))) (h1 : cells.all (·.oneCell') = true) (h : wpList Tryz.prog ops Q rest (a.put op.dst undef) (w.setRow g cells)) (hgd : op.guard = none := by rfl) (ho : op.op = .store 40 x y := by rfl) (hx : a.eval x = .pointer (some ⟨g, 0, none⟩) := by rfl) (hy : a.eval y = .agg cells := by rfl) (hi : 27 = cells.size := by rfl) : wpList Tryz.prog ops Q (op :: rest) a w :=
 wpList_store_row hgd 40 x y ho g cells hx hy 40 dz0.toArray hg (by rw [← hi]; exact size_Dec) hi h1 h
theorem gl {P : Program} {d : Option Tmp} {k : TypeId} {q : String} {e : Array Edge} {u : Option (Nat × Bool)} (h : wpList P ops Q (⟨d, Op.load 40 x, k, q, e, u⟩ :: rest) a w) : wpList P ops Q (⟨d, Op.load 40 x, k, q, e, u⟩ :: rest) a w := h
theorem gs {P : Program} {d : Option Tmp} {k : TypeId} {q : String} {e : Array Edge} {u : Option (Nat × Bool)} (h : wpList P ops Q (⟨d, Op.store 40 x y, k, q, e, u⟩ :: rest) a w) : wpList P ops Q (⟨d, Op.store 40 x y, k, q, e, u⟩ :: rest) a w := h
end
end Go.Proofs.YtabdjimjelfbfaaGreat
namespace Go.Proofs.YtabdjimjelfbfaaGreat
set_option linter.unusedSimpArgs false
set_option linter.unusedVariables false
open Go.ChangeShapes Go.WideShapes Go.ChangeAt Go.RowKit Go.BigFrame
def zeroF : Fld := ⟨0, 0, false, false, 0⟩
def fAt (n : Int) : List Fld → Fld × Bool
 | [] => (zeroF, false)
 | f :: fs => if f.number = n then (f, true) else fAt n fs
def fieldAt (xs : List Shp) (s n : Int) : Fld × Bool := if inB s 0 (xs.length - 1) then fAt n ((xs[s.toNat]?.map Shp.flds).getD []) else (zeroF, false)
theorem fAt_yes {n : Int} {k : Nat} {xs : List Fld} {e : Fld} {R : Fld × Bool} (h : fAt n (xs.drop k) = R) (he : xs[k]? = some e) (hi : e.number = n) : (e, true) = R := by
 rw [drop_cons he, fAt, if_pos hi] at h; exact h
theorem fAt_no {n : Int} {k : Nat} {xs : List Fld} {e : Fld} {R : Fld × Bool} (h : fAt n (xs.drop k) = R) (he : xs[k]? = some e) (hi : ¬ e.number = n) : fAt n (xs.drop (k + 1)) = R := by
 rw [drop_cons he, fAt, if_neg hi] at h; exact h
theorem fAt_end {n : Int} {k : Nat} {xs : List Fld} {R : Fld × Bool} (h : fAt n (xs.drop k) = R) (hk : xs.length ≤ k) : (zeroF, false) = R := by
 rw [List.drop_of_length_le hk] at h; exact h
theorem block_lt {w : World} {b : Nat} {o : Obj} (h : w.heap[b]? = some o) : b < w.heap.size := by
 rcases Nat.lt_or_ge b w.heap.size with h1 | h1
 ·exact h1
 ·rw [Array.getElem?_eq_none h1] at h; simp at h
theorem heap_new1 (w : World) (o1 o2 : Obj) : ((w.alloc o1).alloc o2).heap[w.heap.size + 1]? = some o2 := by
 have h := heap_alloc_new (w.alloc o1) o2
 rw [World.size_alloc] at h; exact h
theorem cell_of_blk {w : World} {b : Nat} {cs : Array Value} {t : TypeId} (h : w.heap[b]? = some (.cells cs t (0, 0))) (i : Nat) : w.cell? ⟨b, i, none⟩ = cs[i]? := by simp [World.cell?, h]
theorem frozen_of_blk {w : World} {b : Nat} {cs : Array Value} {t : TypeId} (h : w.heap[b]? = some (.cells cs t (0, 0))) (i : Nat) : w.frozen? ⟨b, i, none⟩ = false := by simp [World.frozen?, h]
theorem heap_alloc_old {w : World} {b : Nat} {o : Obj} (h : b < w.heap.size) : (w.alloc o).heap[b]? = w.heap[b]? := Below.heap_alloc w o b h
set_option maxHeartbeats 4000000 in
theorem specFieldAt_any (a : Option Addr) (cap n : Nat) (xs : List Shp) (s m : Int) (w : World) (h : Shs w a xs) (hx : xs.length = n) (hn : n ≤ 1048576) (hm : fldSum xs ≤ 1048576) :
  Calls Tryz.prog 60 #[.agg #[.slice a n cap], .int .i64 s, .int .i64 m] w fun r w' => r = .returned (.tuple #[(fieldAt xs s m).1.val, .bool (fieldAt xs s m).2]) ∧ Below w.heap.size w w' := by
 have HX := Lib.hid hx; clear hx
 obtain ⟨R, hR⟩ : ∃ R, fieldAt xs s m = R := ⟨_, rfl⟩
 rw [hR]
 by_cases hin : inB s 0 (n - 1) = true
 ·have hs : 0 ≤ s ∧ s ≤ n - 1 := by simpa [inB] using hin
  obtain ⟨j, rfl⟩ := Int.eq_ofNat_of_zero_le hs.1
  have hjn : j < n := by omega
  obtain ⟨x, hxj, _⟩ := at_lt (xs := xs) (k := j) (by rw [HX.out]; exact hjn)
  have HR := Lib.hid (show fAt m (x.flds.drop 0) = R by rw [← hR, fieldAt, HX.out, if_pos hin]; simp [hxj])
  have hxl := Nat.le_trans (fldSum_ge hxj) hm
  clear hR
  obtain ⟨b, off, a1, cap1, rfl, hlb, c0, c1, hfl⟩ := h j x hxj
  have HXJ := Lib.hid hxj; clear hxj
  have HSs := Lib.hid h; clear h
  clear hs
  go_enter Tryz.func60, Tryz.ntmps60
  go_wp2_with (first | (go_at_call 51; refine (l1In_any _ _ _ _).mono ?_; rintro r w1 ⟨rfl, rfl⟩))
  have hbx : ((w.alloc (.cells #[.slice (some ⟨b, off, none⟩) n cap] 26)).alloc (.cells #[.int .i64 0, .int .i64 0, .bool false, .bool false, .int .i64 0] 34)).heap[w.heap.size + 1]? = some (.cells #[.int .i64 0, .int .i64 0, .bool false, .bool false, .int .i64 0] 34 (0, 0)) := heap_new1 w _ _
  have HBX := Lib.hid hbx; clear hbx
  go_loopw [7, 9] (fun t i wr => ∃ k : Nat, k ≤ x.flds.length ∧ i = .int .i64 k ∧ Hid (fAt m (x.flds.drop k) = R) ∧ Hid (wr.heap[w.heap.size + 1]? = some (.cells #[.int .i64 0, .int .i64 0, .bool false, .bool false, .int .i64 0] 34 (0, 0))) ∧ Below w.heap.size w wr) (fun _ i _ => x.flds.length - (intOf i).toNat)
  case atStart => exact ⟨0, Nat.zero_le _, rfl, HR, HBX, by exact bl⟩
  case round =>
   obtain ⟨k, hk, rfl, HV, HB, hb⟩ := hrel
   have hz := hb.size
   have hz1 : w.heap.size + 1 < wr.heap.size := block_lt HB.out
   by_cases hlt : k < x.flds.length
   ·obtain ⟨e, he, _⟩ := at_lt (xs := x.flds) (k := k) hlt
    have HE := Lib.hid he
    obtain ⟨b2, off2, rfl, hlb2, d0, d1, d2, d3, d4⟩ := Flds.at (hfl.below hb (Nat.le_refl _)) he
    clear he
    have x0 := cell_of_blk HB.out 0
    have x1 := cell_of_blk HB.out 1
    have x2 := cell_of_blk HB.out 2
    have x3 := cell_of_blk HB.out 3
    have x4 := cell_of_blk HB.out 4
    have hfz : ∀ j, wr.frozen? ⟨w.heap.size + 1, j, none⟩ = false := fun j => frozen_of_blk HB.out j
    simp only [List.getElem?_toArray, List.getElem?_cons_zero, List.getElem?_cons_succ] at x0 x1 x2 x3 x4
    by_cases hi : e.number = m
    ·have H := Lib.hid (fAt_yes HV.out HE.out hi)
     go_wp2
     refine bodyPost_ret (v := .tuple #[e.val, .bool true]) (by simp [results, Tryz.results60, go_sem, x0, x1, x2, x3, x4, hz1]; try exact hi.symm) rfl ⟨by rw [← H.out], by exact bl⟩
    ·have hi' : (e.number == m) = false := by simp [hi]
     have H := Lib.hid (fAt_no HV.out HE.out hi)
     clear hi
     go_wp2
     go_roundw
     case rel => exact ⟨k + 1, by omega, by go_num, H, Lib.hid (by first | exact HB.out | exact (heap_alloc_old hz1).trans HB.out), by exact bl⟩
     case measure => simp [intOf]; omega
   ·have H := Lib.hid (fAt_end HV.out (by omega))
    have x0 := cell_of_blk HB.out 0
    have x1 := cell_of_blk HB.out 1
    have x2 := cell_of_blk HB.out 2
    have x3 := cell_of_blk HB.out 3
    have x4 := cell_of_blk HB.out 4
    have hfz : ∀ j, wr.frozen? ⟨w.heap.size + 1, j, none⟩ = false := fun j => frozen_of_blk HB.out j
    simp only [List.getElem?_toArray, List.getElem?_cons_zero, List.getElem?_cons_succ] at x0 x1 x2 x3 x4
    go_wp2
    refine bodyPost_ret (v := .tuple #[zeroF.val, .bool false]) (by simp [results, Tryz.results60, go_sem, zeroF, x0, x1, x2, x3, x4]) rfl ⟨by rw [← H.out], by exact bl⟩
 ·have hin' : inB s 0 (n - 1) = false := by simpa using hin
  have H := Lib.hid (show (zeroF, false) = R by rw [← hR, fieldAt, HX.out, if_neg hin])
  clear hin hR
  have HSs := Lib.hid h; clear h
  go_enter Tryz.func60, Tryz.ntmps60
  go_wp2_with (first | (go_at_call 51; refine (l1In_any _ _ _ _).mono ?_; rintro r w1 ⟨rfl, rfl⟩))
  refine bodyPost_ret (v := .tuple #[zeroF.val, .bool false]) (by simp [results, Tryz.results60, go_sem, zeroF]) rfl ⟨by rw [← H.out], by exact bl⟩
section
variable {m b : Int} {k : Nat} {xs : List Shp} {e : Shp} {R : Bool} {fs : List Fld} {f : Fld}
theorem so_bad (h : shpsOk m b (xs.drop k) = R) (he : xs[k]? = some e) (hh : shpHead b e = false) : false = R := by
 rw [drop_cons he, shpsOk, hh] at h; simpa using h
theorem so_bad2 (h : shpsOk m b (xs.drop k) = R) (he : xs[k]? = some e) (hh : shpHead b e = true) (hf : fldsOk m 0 e.flds = false) : false = R := by
 rw [drop_cons he, shpsOk, hh, hf] at h; simpa using h
theorem so_ok (h : shpsOk m b (xs.drop k) = R) (he : xs[k]? = some e) (hh : shpHead b e = true) (hf : fldsOk m 0 e.flds = true) : shpsOk m e.id (xs.drop (k + 1)) = R := by
 rw [drop_cons he, shpsOk, hh, hf] at h; simpa using h
theorem so_end (h : shpsOk m b (xs.drop k) = R) (hk : xs.length ≤ k) : true = R := by
 rw [List.drop_of_length_le hk] at h; simpa [shpsOk] using h
theorem fo_bad (h : fldsOk m b (fs.drop k) = R) (he : fs[k]? = some f) (hh : (fldOk m f && decide (b < f.number)) = false) : R = false := by
 rw [drop_cons he, fldsOk, hh] at h; simpa using h.symm
theorem fo_ok (h : fldsOk m b (fs.drop k) = R) (he : fs[k]? = some f) (hh : (fldOk m f && decide (b < f.number)) = true) : fldsOk m f.number (fs.drop (k + 1)) = R := by
 rw [drop_cons he, fldsOk, hh] at h; simpa using h
theorem fo_end (h : fldsOk m b (fs.drop k) = R) (hk : fs.length ≤ k) : R = true := by
 rw [List.drop_of_length_le hk] at h; simpa [fldsOk] using h.symm
end
set_option maxRecDepth 100000 in
set_option maxHeartbeats 4000000 in
theorem implSchemaOk_any (a : Option Addr) (cap n : Nat) (xs : List Shp) (w : World) (h : Shs w a xs) (hx : xs.length = n) (hn : n ≤ 1048576) (hm : fldSum xs ≤ 1048576) :
  Calls Tryz.prog 142 #[.agg #[.slice a n cap]] w fun r w' => r = .returned (.bool (schOk xs)) ∧ Below w.heap.size w w' := by
 have HX := Lib.hid hx; clear hx
 by_cases h6 : n ≤ 6
 ·obtain ⟨R, hR⟩ : ∃ R, schOk xs = R := ⟨_, rfl⟩
  have HR := Lib.hid (show shpsOk n 0 (xs.drop 0) = R by rw [← hR, schOk, HX.out]; simp [h6])
  rw [hR]; clear hR
  go_enter Tryz.func142, Tryz.ntmps142
  go_wp2
  have hbx0 := Lib.hid (box_cells (heap_nth0 w (.cells #[.slice a n cap] 26)))
  go_loopw [2, 3, 16] (fun t id j wr => ∃ k : Nat, k ≤ n ∧ j = .int .i64 k ∧ t = .bool false ∧ (∃ b : Int, id = .int .i64 b ∧ Hid (shpsOk n b (xs.drop k) = R)) ∧ Below w.heap.size w wr ∧ (∀ i, wr.cell? ⟨w.heap.size, i, none⟩ = (#[.slice a n cap] : Array Value)[i]?) ∧ w.heap.size < wr.heap.size) (fun _ _ i _ => n - (intOf i).toNat)
  case atStart => exact ⟨0, Nat.zero_le _, rfl, rfl, ⟨0, rfl, HR⟩, by exact bl, hbx0.out, by simp⟩
  case round =>
   obtain ⟨k, hk, rfl, rfl, ⟨b, rfl, HV⟩, hb, kA, hzz⟩ := hrel
   by_cases hlt : k < n
   ·obtain ⟨e, he, _⟩ := at_lt (xs := xs) (k := k) (by rw [HX.out]; exact hlt)
    have HE := Lib.hid he
    have hne := Nat.le_trans (fldSum_ge he) hm
    obtain ⟨p, off, a1, cap1, rfl, hlb, c0, c1, hs1⟩ := h.below hb (Nat.le_refl _) k e he
    clear he
    have HS1 := Lib.hid hs1; clear hs1
    by_cases hh : shpHead b e = true
    ·have hh' := hh
     simp only [shpHead, Bool.and_eq_true, decide_eq_true_eq] at hh'
     obtain ⟨hh1, hh2, hh3⟩ := hh'
     have HH := Lib.hid hh; clear hh
     go_wp2
     obtain ⟨S, hS⟩ : ∃ S, fldsOk n 0 e.flds = S := ⟨_, rfl⟩
     have HS := Lib.hid hS
     have HSd := Lib.hid (show fldsOk n 0 (e.flds.drop 0) = S from hS)
     clear hS
     obtain ⟨wo, rfl⟩ : ∃ wo : World, wo = wr := ⟨_, rfl⟩
     have hbx1 := Lib.hid (box_cells (heap_nth0 wo (.cells #[.int .i64 e.id, .slice a1 e.flds.length cap1] 77)))
     go_loopw [2, 6, 8, 38] (fun t z x j wr => ∃ q : Nat, q ≤ e.flds.length ∧ j = .int .i64 q ∧ t = .bool false ∧ (∃ v : Int, z = .int .i64 v ∧ Hid (fldsOk n v (e.flds.drop q) = S)) ∧ Below wo.heap.size wo wr ∧ (∀ i, wr.cell? ⟨wo.heap.size, i, none⟩ = (#[.int .i64 e.id, .slice a1 e.flds.length cap1] : Array Value)[i]?) ∧ wo.heap.size < wr.heap.size) (fun _ _ _ i _ => e.flds.length - (intOf i).toNat)
     case atStart => exact ⟨0, Nat.zero_le _, rfl, rfl, ⟨0, rfl, HSd⟩, by exact bl, hbx1.out, by simp⟩
     case round =>
      obtain ⟨q, hq, rfl, rfl, ⟨v, rfl, HT1⟩, hb1, kC, hzi⟩ := hrel
      have hzi0 : w.heap.size < wr.heap.size := by omega
      have hB1 := Lib.hid hb1
      have kA1 := box_next hb1 hzz kA
      by_cases hqlt : q < e.flds.length
      ·obtain ⟨g, hg, _⟩ := at_lt (xs := e.flds) (k := q) hqlt
       have HG := Lib.hid hg
       obtain ⟨p', o, rfl, hp, x0, x1, x2, x3, x4⟩ := Flds.at (Sl.keep HS1.out hb1) hg
       clear hg
       obtain ⟨z, hz⟩ : ∃ z, (fldOk n g && decide (v < g.number)) = z := ⟨_, rfl⟩
       have HZ := Lib.hid hz; clear hz
       go_wp2_with fail
       refine (fieldOk_any g v n _ (by omega) (by omega)).mono ?_
       rintro r w2 ⟨rfl, hb2⟩
       obtain ⟨hc2, hf2⟩ := bcell hb2
       have hz2 := hb2.size
       simp only [World.size_alloc] at hz2
       rw [HZ.out]
       cases z
       ·have H := Lib.hid (so_bad2 HV.out HE.out HH.out (by rw [HS.out]; exact fo_bad HT1.out HG.out HZ.out))
        go_wp2
        go_ret
        exact ⟨ret_bool H.out, by exact bl⟩
       ·have H := Lib.hid (fo_ok HT1.out HG.out HZ.out)
        go_wp2
        go_roundw
        case rel => exact ⟨q + 1, by omega, by go_num, rfl, ⟨_, rfl, H⟩, by exact bl, box_next (w := wr) bl hzi kC, by omega⟩
        case measure => simp [intOf]; omega
      ·have H := Lib.hid (so_ok HV.out HE.out HH.out (by rw [HS.out]; exact fo_end HT1.out (by omega)))
       go_wp2
       go_roundw
       case rel => exact ⟨k + 1, by omega, by go_num, rfl, ⟨_, rfl, H⟩, by exact bl, kA1, by omega⟩
       case measure => simp [intOf]; omega
    ·have hh' : shpHead b e = false := by simpa using hh
     have H := Lib.hid (so_bad HV.out HE.out hh')
     clear hh'
     have hh2 : e.id ≤ b ∨ b < e.id ∧ 99 < e.id ∨ b < e.id ∧ e.id ≤ 99 ∧ 8 < e.flds.length := by
      simp only [shpHead, Bool.and_eq_true, decide_eq_true_eq] at hh; omega
     clear hh
     rcases hh2 with hh2 | ⟨hh3, hh2⟩ | ⟨hh3, hh4, hh2⟩
     all_goals
      go_wp2
      go_ret
      exact ⟨ret_bool H.out, by exact bl⟩
   ·have H := Lib.hid (so_end HV.out (by rw [HX.out]; omega))
    go_wp2
    go_ret
    exact ⟨ret_bool H.out, hb⟩
 ·have H := Lib.hid (show false = schOk xs by rw [schOk, HX.out]; simp; omega)
  go_enter Tryz.func142, Tryz.ntmps142
  go_wp2
  go_ret
  exact ⟨ret_bool H.out, by exact bl⟩
def PrevS (xs : List Shp) (k : Nat) (b : Int) : Prop := (k = 0 ∧ b = 0) ∨ ∃ j p, k = j + 1 ∧ xs[j]? = some p ∧ p.id = b ∧ 1 ≤ b
def PrevF (fs : List Fld) (k : Nat) (b : Int) : Prop := (k = 0 ∧ b = 0) ∨ ∃ j p, k = j + 1 ∧ fs[j]? = some p ∧ p.number = b ∧ 1 ≤ b
theorem inB99 {x : Int} : inB x 1 99 = true ↔ 1 ≤ x ∧ x ≤ 99 := by simp [inB]
theorem head_cases {m b : Int} {k : Nat} {xs : List Shp} {e : Shp} {R : Bool} (hp : PrevS xs k b) (h : shpsOk m b (xs.drop k) = R) (he : xs[k]? = some e) :
  (inB e.id 1 99 = false ∧ false = R) ∨ (inB e.id 1 99 = true ∧ ∃ j y, k = j + 1 ∧ xs[j]? = some y ∧ e.id ≤ y.id ∧ false = R) ∨ (inB e.id 1 99 = true ∧ k = 0 ∧ 8 < e.flds.length ∧ false = R) ∨
  (inB e.id 1 99 = true ∧ ∃ j y, k = j + 1 ∧ xs[j]? = some y ∧ y.id < e.id ∧ 8 < e.flds.length ∧ false = R) ∨ (inB e.id 1 99 = true ∧ e.flds.length ≤ 8 ∧ shpHead b e = true ∧ (k = 0 ∨ ∃ j y, k = j + 1 ∧ xs[j]? = some y ∧ y.id < e.id)) := by
 have hb : 0 ≤ b := by rcases hp with ⟨_, rfl⟩ | ⟨_, _, _, _, _, h1⟩ <;> omega
 by_cases hA : inB e.id 1 99 = true
 ·have hA' := inB99.1 hA
  by_cases h8 : e.flds.length ≤ 8
  ·rcases hp with ⟨hk, rfl⟩ | ⟨j, y, hk, hy, rfl, h1⟩
   ·exact .inr (.inr (.inr (.inr ⟨hA, h8, by simp [shpHead, h8]; omega, .inl hk⟩)))
   ·by_cases hlt : y.id < e.id
    ·exact .inr (.inr (.inr (.inr ⟨hA, h8, by simp [shpHead, h8]; omega, .inr ⟨j, y, hk, hy, hlt⟩⟩)))
    ·exact .inr (.inl ⟨hA, j, y, hk, hy, by omega, so_bad h he (by simp [shpHead]; omega)⟩)
  ·have hf : false = R := so_bad h he (by simp [shpHead]; omega)
   rcases hp with ⟨hk, rfl⟩ | ⟨j, y, hk, hy, rfl, h1⟩
   ·exact .inr (.inr (.inl ⟨hA, hk, by omega, hf⟩))
   ·by_cases hlt : y.id < e.id
    ·exact .inr (.inr (.inr (.inl ⟨hA, j, y, hk, hy, hlt, by omega, hf⟩)))
    ·exact .inr (.inl ⟨hA, j, y, hk, hy, by omega, hf⟩)
 ·have hA' : inB e.id 1 99 = false := by simpa using hA
  refine .inl ⟨hA', so_bad h he ?_⟩
  have : ¬ (1 ≤ e.id ∧ e.id ≤ 99) := fun h => hA (inB99.2 h)
  simp [shpHead]; omega
theorem prevS_next {xs : List Shp} {k : Nat} {e : Shp} (he : xs[k]? = some e) (h : 1 ≤ e.id) : PrevS xs (k + 1) e.id := .inr ⟨k, e, rfl, he, rfl, h⟩
theorem prevF_next {xs : List Fld} {k : Nat} {e : Fld} (he : xs[k]? = some e) (h : 1 ≤ e.number) : PrevF xs (k + 1) e.number := .inr ⟨k, e, rfl, he, rfl, h⟩
theorem fldOk_pos {m : Int} {f : Fld} (h : fldOk m f = true) : 1 ≤ f.number := by
 simp only [fldOk, numOk, Bool.and_eq_true] at h
 have := h.1.1
 simp [inB] at this; omega
theorem fld_cases {m v : Int} {q : Nat} {fs : List Fld} {g : Fld} {S : Bool} (hp : PrevF fs q v) (h : fldsOk m v (fs.drop q) = S) (hg : fs[q]? = some g) :
  (fldOk m g = false ∧ S = false) ∨ (fldOk m g = true ∧ ∃ j y, q = j + 1 ∧ fs[j]? = some y ∧ g.number ≤ y.number ∧ S = false) ∨
  (fldOk m g = true ∧ (q = 0 ∨ ∃ j y, q = j + 1 ∧ fs[j]? = some y ∧ y.number < g.number) ∧ fldsOk m g.number (fs.drop (q + 1)) = S ∧ 1 ≤ g.number) := by
 by_cases hz : fldOk m g = true
 ·have h1 := fldOk_pos hz
  rcases hp with ⟨hk, rfl⟩ | ⟨j, y, hk, hy, rfl, _⟩
  ·exact .inr (.inr ⟨hz, .inl hk, fo_ok h hg (by simp [hz]; omega), h1⟩)
  ·by_cases hlt : y.number < g.number
   ·exact .inr (.inr ⟨hz, .inr ⟨j, y, hk, hy, hlt⟩, fo_ok h hg (by simp [hz, hlt]), h1⟩)
   ·exact .inr (.inl ⟨hz, j, y, hk, hy, by omega, fo_bad h hg (by simp; omega)⟩)
 ·have hz' : fldOk m g = false := by simpa using hz
  exact .inl ⟨hz', fo_bad h hg (by simp [hz'])⟩
set_option maxRecDepth 100000 in
set_option maxHeartbeats 8000000 in
theorem specSchemaOk_any (a : Option Addr) (cap n : Nat) (xs : List Shp) (w : World) (h : Shs w a xs) (hx : xs.length = n) (hn : n ≤ 1048576) (hm : fldSum xs ≤ 1048576) :
  Calls Tryz.prog 107 #[.agg #[.slice a n cap]] w fun r w' => r = .returned (.bool (schOk xs)) ∧ Below w.heap.size w w' := by
 have HX := Lib.hid hx; clear hx
 by_cases h6 : n ≤ 6
 ·obtain ⟨R, hR⟩ : ∃ R, schOk xs = R := ⟨_, rfl⟩
  have HR := Lib.hid (show shpsOk n 0 (xs.drop 0) = R by rw [← hR, schOk, HX.out]; simp [h6])
  rw [hR]; clear hR
  go_enter Tryz.func107, Tryz.ntmps107
  go_wp2
  have hbx0 := Lib.hid (box_cells (heap_nth0 w (.cells #[.slice a n cap] 26)))
  go_loopw [2, 3] (fun t j wr => ∃ k : Nat, k ≤ n ∧ j = .int .i64 k ∧ t = .bool false ∧ (∃ b : Int, Hid (PrevS xs k b) ∧ Hid (shpsOk n b (xs.drop k) = R)) ∧ Below w.heap.size w wr ∧ (∀ i, wr.cell? ⟨w.heap.size, i, none⟩ = (#[.slice a n cap] : Array Value)[i]?) ∧ w.heap.size < wr.heap.size) (fun _ i _ => n - (intOf i).toNat)
  case atStart => exact ⟨0, Nat.zero_le _, rfl, rfl, ⟨0, Lib.hid (.inl ⟨rfl, rfl⟩), HR⟩, by exact bl, hbx0.out, by simp⟩
  case round =>
   obtain ⟨k, hk, rfl, rfl, ⟨b, HP, HV⟩, hb, kA, hzz⟩ := hrel
   by_cases hlt : k < n
   ·obtain ⟨e, he, _⟩ := at_lt (xs := xs) (k := k) (by rw [HX.out]; exact hlt)
    have HE := Lib.hid he
    have hne := Nat.le_trans (fldSum_ge he) hm
    obtain ⟨p, off, a1, cap1, rfl, hlb, c0, c1, hs1⟩ := h.below hb (Nat.le_refl _) k e he
    clear he
    have HS1 := Lib.hid hs1; clear hs1
    have HC := Lib.hid (head_cases HP.out HV.out HE.out)
    rcases HC.out with ⟨hA, H⟩ | ⟨hA, j, y, hkj, hy, hp1, H⟩ | ⟨hA, hk0, h8, H⟩ | ⟨hA, j, y, hkj, hy, hp1, h8, H⟩ | HD
    ·have H' := Lib.hid H
     clear H
     go_wp2_with fail
     (refine wp_region_ext (by kernel_rfl) (by kernel_rfl) ?_; (repeat (go_big_quiet_step (first | (go_at_call 51; refine Calls.ext_of_same (l1In_any _ _ _ _))))); refine wpQuiet_nil ?_; intro w1 hb1; obtain ⟨hc1, hf1⟩ := bcell hb1; have hz1 := hb1.size; (try simp only [World.size_alloc, World.size_setCell, World.size_drew] at hz1))
     go_wp2
     go_ret
     exact ⟨ret_bool H'.out, by exact bl⟩
    ·have H' := Lib.hid H
     clear H
     obtain ⟨_, _, _, _, e0, _, y0, _, _⟩ := h.below hb (Nat.le_refl _) j y hy
     obtain ⟨rfl, rfl⟩ : p = _ ∧ off = _ := by simpa using e0
     have hy' := Lib.hid hy; clear hy e0
     have hw : (k : Int) - 1 = j := by omega
     have hw2 : IntKind.i64.wrap ((k : Int) - 1) = j := by rw [hw]; exact IntWalk.i64_in _ (by omega)
     have hk0 : 0 < k := by omega
     have hj0 : (0 : Int) ≤ j := by omega
     have hjn : (j : Int) < n := by omega
     have HKJ := Lib.hid hkj; clear hkj
     go_wp2_with fail
     (refine wp_region_ext (by kernel_rfl) (by kernel_rfl) ?_; (repeat (go_big_quiet_step (first | (go_at_call 51; refine Calls.ext_of_same (l1In_any _ _ _ _))))); refine wpQuiet_nil ?_; intro w1 hb1; obtain ⟨hc1, hf1⟩ := bcell hb1; have hz1 := hb1.size; (try simp only [World.size_alloc, World.size_setCell, World.size_drew] at hz1))
     go_wp2
     go_ret
     exact ⟨ret_bool H'.out, by exact bl⟩
    ·have H' := Lib.hid H
     clear H
     subst hk0
     simp only [Nat.zero_mul, Nat.add_zero] at c0 c1
     go_wp2_with fail
     (refine wp_region_ext (by kernel_rfl) (by kernel_rfl) ?_; (repeat (go_big_quiet_step (first | (go_at_call 51; refine Calls.ext_of_same (l1In_any _ _ _ _))))); refine wpQuiet_nil ?_; intro w1 hb1; obtain ⟨hc1, hf1⟩ := bcell hb1; have hz1 := hb1.size; (try simp only [World.size_alloc, World.size_setCell, World.size_drew] at hz1))
     go_wp2
     go_ret
     exact ⟨ret_bool H'.out, by exact bl⟩
    ·have H' := Lib.hid H
     clear H
     obtain ⟨_, _, _, _, e0, _, y0, _, _⟩ := h.below hb (Nat.le_refl _) j y hy
     obtain ⟨rfl, rfl⟩ : p = _ ∧ off = _ := by simpa using e0
     have hy' := Lib.hid hy; clear hy e0
     have hw : (k : Int) - 1 = j := by omega
     have hw2 : IntKind.i64.wrap ((k : Int) - 1) = j := by rw [hw]; exact IntWalk.i64_in _ (by omega)
     have hk0 : 0 < k := by omega
     have hj0 : (0 : Int) ≤ j := by omega
     have hjn : (j : Int) < n := by omega
     have HKJ := Lib.hid hkj; clear hkj
     have hp2 : decide (e.id ≤ y.id) = false := by simp; omega
     go_wp2_with fail
     (refine wp_region_ext (by kernel_rfl) (by kernel_rfl) ?_; (repeat (go_big_quiet_step (first | (go_at_call 51; refine Calls.ext_of_same (l1In_any _ _ _ _))))); refine wpQuiet_nil ?_; intro w1 hb1; obtain ⟨hc1, hf1⟩ := bcell hb1; have hz1 := hb1.size; (try simp only [World.size_alloc, World.size_setCell, World.size_drew] at hz1))
     go_wp2
     go_ret
     exact ⟨ret_bool H'.out, by exact bl⟩
    ·obtain ⟨hA, h8, hh, hpv⟩ := HD
     have HH := Lib.hid hh; clear hh
     have HPS := Lib.hid (prevS_next HE.out (inB99.1 hA).1)
     obtain ⟨S, hS⟩ : ∃ S, fldsOk n 0 e.flds = S := ⟨_, rfl⟩
     have HS := Lib.hid hS
     have HSd := Lib.hid (show fldsOk n 0 (e.flds.drop 0) = S from hS)
     clear hS
     have h8' : ¬ (8 : Int) < e.flds.length := by omega
     rcases hpv with hk0 | ⟨j, y, hkj, hy, hp1⟩
     ·have hkz : decide (0 < k) = false := by simp [hk0]
      have HK0 := Lib.hid hk0; clear hk0
      go_wp2_with fail
      (refine wp_region_ext (by kernel_rfl) (by kernel_rfl) ?_; (repeat (go_big_quiet_step (first | (go_at_call 51; refine Calls.ext_of_same (l1In_any _ _ _ _))))); refine wpQuiet_nil ?_; intro w1 hb1; obtain ⟨hc1, hf1⟩ := bcell hb1; have hz1 := hb1.size; (try simp only [World.size_alloc, World.size_setCell, World.size_drew] at hz1))
      go_wp2
      obtain ⟨wo, rfl⟩ : ∃ wo : World, wo = wr := ⟨_, rfl⟩
      have hbx1 := Lib.hid (box_new0 hb1)
      have hbl1 := box_lt0 hb1
      have hbw1 : Below wo.heap.size wo w1 := by exact bl
      have kA1 := Lib.hid (box_next hbw1 hzz kA)
      have hzw1 := hbw1.size
      go_loopw [2, 5] (fun t j wr => ∃ q : Nat, q ≤ e.flds.length ∧ j = .int .i64 q ∧ t = .bool false ∧ (∃ v : Int, Hid (PrevF e.flds q v) ∧ Hid (fldsOk n v (e.flds.drop q) = S)) ∧ Below wo.heap.size wo wr ∧ (∀ i, wr.cell? ⟨w.heap.size, i, none⟩ = (#[.slice (some ⟨p, off, none⟩) n cap] : Array Value)[i]?) ∧ (∀ i, wr.cell? ⟨wo.heap.size, i, none⟩ = (#[.int .i64 e.id, .slice a1 e.flds.length cap1] : Array Value)[i]?) ∧ wo.heap.size < wr.heap.size) (fun _ i _ => e.flds.length - (intOf i).toNat)
      case atStart => exact ⟨0, Nat.zero_le _, rfl, rfl, ⟨0, Lib.hid (.inl ⟨rfl, rfl⟩), HSd⟩, hbw1, kA1.out, hbx1.out, hbl1⟩
      case round =>
       obtain ⟨q, hq, rfl, rfl, ⟨v, HPF, HT1⟩, hb2, kA2, kC, hzi⟩ := hrel
       have hzi0 : w.heap.size < wr.heap.size := by omega
       by_cases hqlt : q < e.flds.length
       ·obtain ⟨g, hg, _⟩ := at_lt (xs := e.flds) (k := q) hqlt
        have HG := Lib.hid hg
        obtain ⟨p', o, rfl, hp, x0, x1, x2, x3, x4⟩ := Flds.at (Sl.keep HS1.out hb2) hg
        clear hg
        have HC2 := Lib.hid (fld_cases HPF.out HT1.out HG.out)
        rcases HC2.out with ⟨hz, H⟩ | ⟨hz, j2, y2, hqj, hy2, hle2, H⟩ | ⟨hz, hpv2, H, hg1⟩
        ·have H' := Lib.hid (so_bad2 HV.out HE.out HH.out (by rw [HS.out]; exact H))
         clear H
         go_wp2_with fail
         (refine wp_region_ext (by kernel_rfl) (by kernel_rfl) ?_; (repeat (go_big_quiet_step (first | (go_at_call 131; refine Calls.ext_of (l8FieldOk_any _ _ _ g _ hn))))); refine wpQuiet_nil ?_; intro w3 hb3; obtain ⟨hc3, hf3⟩ := bcell hb3; have hz3 := hb3.size; (try simp only [World.size_alloc, World.size_setCell, World.size_drew] at hz3))
         go_wp2
         go_ret
         exact ⟨ret_bool H'.out, by exact bl⟩
        ·have H' := Lib.hid (so_bad2 HV.out HE.out HH.out (by rw [HS.out]; exact H))
         clear H
         obtain ⟨_, _, e0', _, y0', _⟩ := Flds.at (Sl.keep HS1.out hb2) hy2
         obtain ⟨rfl, rfl⟩ : p' = _ ∧ o = _ := by simpa using e0'
         have hy2' := Lib.hid hy2; clear hy2 e0'
         have hwq : (q : Int) - 1 = j2 := by omega
         have hwq2 : IntKind.i64.wrap ((q : Int) - 1) = j2 := by rw [hwq]; exact IntWalk.i64_in _ (by omega)
         have hq0 : 0 < q := by omega
         have hj20 : (0 : Int) ≤ j2 := by omega
         have hj2n : (j2 : Int) < e.flds.length := by omega
         have HQJ := Lib.hid hqj; clear hqj
         go_wp2_with fail
         (refine wp_region_ext (by kernel_rfl) (by kernel_rfl) ?_; (repeat (go_big_quiet_step (first | (go_at_call 131; refine Calls.ext_of (l8FieldOk_any _ _ _ g _ hn))))); refine wpQuiet_nil ?_; intro w3 hb3; obtain ⟨hc3, hf3⟩ := bcell hb3; have hz3 := hb3.size; (try simp only [World.size_alloc, World.size_setCell, World.size_drew] at hz3))
         go_wp2
         go_ret
         exact ⟨ret_bool H'.out, by exact bl⟩
        ·have H' := Lib.hid H
         clear H
         have HPN := Lib.hid (prevF_next HG.out hg1)
         rcases hpv2 with hq0 | ⟨j2, y2, hqj, hy2, hle2⟩
         ·have hqz : decide (0 < q) = false := by simp [hq0]
          have HQ0 := Lib.hid hq0; clear hq0
          go_wp2_with fail
          (refine wp_region_ext (by kernel_rfl) (by kernel_rfl) ?_; (repeat (go_big_quiet_step (first | (go_at_call 131; refine Calls.ext_of (l8FieldOk_any _ _ _ g _ hn))))); refine wpQuiet_nil ?_; intro w3 hb3; obtain ⟨hc3, hf3⟩ := bcell hb3; have hz3 := hb3.size; (try simp only [World.size_alloc, World.size_setCell, World.size_drew] at hz3))
          go_wp2
          go_roundw
          case rel => exact ⟨q + 1, by omega, by go_num, rfl, ⟨_, HPN, H'⟩, by exact bl, box_next (w := wr) bl hzi0 kA2, box_next (w := wr) bl hzi kC, by omega⟩
          case measure => simp [intOf]; omega
         ·obtain ⟨_, _, e0', _, y0', _⟩ := Flds.at (Sl.keep HS1.out hb2) hy2
          obtain ⟨rfl, rfl⟩ : p' = _ ∧ o = _ := by simpa using e0'
          have hy2' := Lib.hid hy2; clear hy2 e0'
          have hwq : (q : Int) - 1 = j2 := by omega
          have hwq2 : IntKind.i64.wrap ((q : Int) - 1) = j2 := by rw [hwq]; exact IntWalk.i64_in _ (by omega)
          have hq0 : 0 < q := by omega
          have hj20 : (0 : Int) ≤ j2 := by omega
          have hj2n : (j2 : Int) < e.flds.length := by omega
          have hle3 : decide (g.number ≤ y2.number) = false := by simp; omega
          have HQJ := Lib.hid hqj; clear hqj
          go_wp2_with fail
          (refine wp_region_ext (by kernel_rfl) (by kernel_rfl) ?_; (repeat (go_big_quiet_step (first | (go_at_call 131; refine Calls.ext_of (l8FieldOk_any _ _ _ g _ hn))))); refine wpQuiet_nil ?_; intro w3 hb3; obtain ⟨hc3, hf3⟩ := bcell hb3; have hz3 := hb3.size; (try simp only [World.size_alloc, World.size_setCell, World.size_drew] at hz3))
          go_wp2
          go_roundw
          case rel => exact ⟨q + 1, by omega, by go_num, rfl, ⟨_, HPN, H'⟩, by exact bl, box_next (w := wr) bl hzi0 kA2, box_next (w := wr) bl hzi kC, by omega⟩
          case measure => simp [intOf]; omega
       ·have H := Lib.hid (so_ok HV.out HE.out HH.out (by rw [HS.out]; exact fo_end HT1.out (by omega)))
        go_wp2
        go_roundw
        case rel => exact ⟨k + 1, by omega, by go_num, rfl, ⟨_, HPS, H⟩, by exact bl, kA2, by omega⟩
        case measure => simp [intOf]; omega
     ·
      obtain ⟨_, _, _, _, e0, _, y0, _, _⟩ := h.below hb (Nat.le_refl _) j y hy
      obtain ⟨rfl, rfl⟩ : p = _ ∧ off = _ := by simpa using e0
      have hy' := Lib.hid hy; clear hy e0
      have hw : (k : Int) - 1 = j := by omega
      have hw2 : IntKind.i64.wrap ((k : Int) - 1) = j := by rw [hw]; exact IntWalk.i64_in _ (by omega)
      have hk0 : 0 < k := by omega
      have hj0 : (0 : Int) ≤ j := by omega
      have hjn : (j : Int) < n := by omega
      have HKJ := Lib.hid hkj; clear hkj
      have hp2 : decide (e.id ≤ y.id) = false := by simp; omega
      go_wp2_with fail
      (refine wp_region_ext (by kernel_rfl) (by kernel_rfl) ?_; (repeat (go_big_quiet_step (first | (go_at_call 51; refine Calls.ext_of_same (l1In_any _ _ _ _))))); refine wpQuiet_nil ?_; intro w1 hb1; obtain ⟨hc1, hf1⟩ := bcell hb1; have hz1 := hb1.size; (try simp only [World.size_alloc, World.size_setCell, World.size_drew] at hz1))
      go_wp2
      obtain ⟨wo, rfl⟩ : ∃ wo : World, wo = wr := ⟨_, rfl⟩
      have hbx1 := Lib.hid (box_new0 hb1)
      have hbl1 := box_lt0 hb1
      have hbw1 : Below wo.heap.size wo w1 := by exact bl
      have kA1 := Lib.hid (box_next hbw1 hzz kA)
      have hzw1 := hbw1.size
      go_loopw [2, 5] (fun t j wr => ∃ q : Nat, q ≤ e.flds.length ∧ j = .int .i64 q ∧ t = .bool false ∧ (∃ v : Int, Hid (PrevF e.flds q v) ∧ Hid (fldsOk n v (e.flds.drop q) = S)) ∧ Below wo.heap.size wo wr ∧ (∀ i, wr.cell? ⟨w.heap.size, i, none⟩ = (#[.slice (some ⟨p, off, none⟩) n cap] : Array Value)[i]?) ∧ (∀ i, wr.cell? ⟨wo.heap.size, i, none⟩ = (#[.int .i64 e.id, .slice a1 e.flds.length cap1] : Array Value)[i]?) ∧ wo.heap.size < wr.heap.size) (fun _ i _ => e.flds.length - (intOf i).toNat)
      case atStart => exact ⟨0, Nat.zero_le _, rfl, rfl, ⟨0, Lib.hid (.inl ⟨rfl, rfl⟩), HSd⟩, hbw1, kA1.out, hbx1.out, hbl1⟩
      case round =>
       obtain ⟨q, hq, rfl, rfl, ⟨v, HPF, HT1⟩, hb2, kA2, kC, hzi⟩ := hrel
       have hzi0 : w.heap.size < wr.heap.size := by omega
       by_cases hqlt : q < e.flds.length
       ·obtain ⟨g, hg, _⟩ := at_lt (xs := e.flds) (k := q) hqlt
        have HG := Lib.hid hg
        obtain ⟨p', o, rfl, hp, x0, x1, x2, x3, x4⟩ := Flds.at (Sl.keep HS1.out hb2) hg
        clear hg
        have HC2 := Lib.hid (fld_cases HPF.out HT1.out HG.out)
        rcases HC2.out with ⟨hz, H⟩ | ⟨hz, j2, y2, hqj, hy2, hle2, H⟩ | ⟨hz, hpv2, H, hg1⟩
        ·have H' := Lib.hid (so_bad2 HV.out HE.out HH.out (by rw [HS.out]; exact H))
         clear H
         go_wp2_with fail
         (refine wp_region_ext (by kernel_rfl) (by kernel_rfl) ?_; (repeat (go_big_quiet_step (first | (go_at_call 131; refine Calls.ext_of (l8FieldOk_any _ _ _ g _ hn))))); refine wpQuiet_nil ?_; intro w3 hb3; obtain ⟨hc3, hf3⟩ := bcell hb3; have hz3 := hb3.size; (try simp only [World.size_alloc, World.size_setCell, World.size_drew] at hz3))
         go_wp2
         go_ret
         exact ⟨ret_bool H'.out, by exact bl⟩
        ·have H' := Lib.hid (so_bad2 HV.out HE.out HH.out (by rw [HS.out]; exact H))
         clear H
         obtain ⟨_, _, e0', _, y0', _⟩ := Flds.at (Sl.keep HS1.out hb2) hy2
         obtain ⟨rfl, rfl⟩ : p' = _ ∧ o = _ := by simpa using e0'
         have hy2' := Lib.hid hy2; clear hy2 e0'
         have hwq : (q : Int) - 1 = j2 := by omega
         have hwq2 : IntKind.i64.wrap ((q : Int) - 1) = j2 := by rw [hwq]; exact IntWalk.i64_in _ (by omega)
         have hq0 : 0 < q := by omega
         have hj20 : (0 : Int) ≤ j2 := by omega
         have hj2n : (j2 : Int) < e.flds.length := by omega
         have HQJ := Lib.hid hqj; clear hqj
         go_wp2_with fail
         (refine wp_region_ext (by kernel_rfl) (by kernel_rfl) ?_; (repeat (go_big_quiet_step (first | (go_at_call 131; refine Calls.ext_of (l8FieldOk_any _ _ _ g _ hn))))); refine wpQuiet_nil ?_; intro w3 hb3; obtain ⟨hc3, hf3⟩ := bcell hb3; have hz3 := hb3.size; (try simp only [World.size_alloc, World.size_setCell, World.size_drew] at hz3))
         go_wp2
         go_ret
         exact ⟨ret_bool H'.out, by exact bl⟩
        ·have H' := Lib.hid H
         clear H
         have HPN := Lib.hid (prevF_next HG.out hg1)
         rcases hpv2 with hq0 | ⟨j2, y2, hqj, hy2, hle2⟩
         ·have hqz : decide (0 < q) = false := by simp [hq0]
          have HQ0 := Lib.hid hq0; clear hq0
          go_wp2_with fail
          (refine wp_region_ext (by kernel_rfl) (by kernel_rfl) ?_; (repeat (go_big_quiet_step (first | (go_at_call 131; refine Calls.ext_of (l8FieldOk_any _ _ _ g _ hn))))); refine wpQuiet_nil ?_; intro w3 hb3; obtain ⟨hc3, hf3⟩ := bcell hb3; have hz3 := hb3.size; (try simp only [World.size_alloc, World.size_setCell, World.size_drew] at hz3))
          go_wp2
          go_roundw
          case rel => exact ⟨q + 1, by omega, by go_num, rfl, ⟨_, HPN, H'⟩, by exact bl, box_next (w := wr) bl hzi0 kA2, box_next (w := wr) bl hzi kC, by omega⟩
          case measure => simp [intOf]; omega
         ·obtain ⟨_, _, e0', _, y0', _⟩ := Flds.at (Sl.keep HS1.out hb2) hy2
          obtain ⟨rfl, rfl⟩ : p' = _ ∧ o = _ := by simpa using e0'
          have hy2' := Lib.hid hy2; clear hy2 e0'
          have hwq : (q : Int) - 1 = j2 := by omega
          have hwq2 : IntKind.i64.wrap ((q : Int) - 1) = j2 := by rw [hwq]; exact IntWalk.i64_in _ (by omega)
          have hq0 : 0 < q := by omega
          have hj20 : (0 : Int) ≤ j2 := by omega
          have hj2n : (j2 : Int) < e.flds.length := by omega
          have hle3 : decide (g.number ≤ y2.number) = false := by simp; omega
          have HQJ := Lib.hid hqj; clear hqj
          go_wp2_with fail
          (refine wp_region_ext (by kernel_rfl) (by kernel_rfl) ?_; (repeat (go_big_quiet_step (first | (go_at_call 131; refine Calls.ext_of (l8FieldOk_any _ _ _ g _ hn))))); refine wpQuiet_nil ?_; intro w3 hb3; obtain ⟨hc3, hf3⟩ := bcell hb3; have hz3 := hb3.size; (try simp only [World.size_alloc, World.size_setCell, World.size_drew] at hz3))
          go_wp2
          go_roundw
          case rel => exact ⟨q + 1, by omega, by go_num, rfl, ⟨_, HPN, H'⟩, by exact bl, box_next (w := wr) bl hzi0 kA2, box_next (w := wr) bl hzi kC, by omega⟩
          case measure => simp [intOf]; omega
       ·have H := Lib.hid (so_ok HV.out HE.out HH.out (by rw [HS.out]; exact fo_end HT1.out (by omega)))
        go_wp2
        go_roundw
        case rel => exact ⟨k + 1, by omega, by go_num, rfl, ⟨_, HPS, H⟩, by exact bl, kA2, by omega⟩
        case measure => simp [intOf]; omega
   ·have H := Lib.hid (so_end HV.out (by rw [HX.out]; omega))
    go_wp2
    go_ret
    exact ⟨ret_bool H.out, hb⟩
 ·have H := Lib.hid (show false = schOk xs by rw [schOk, HX.out]; simp; omega)
  go_enter Tryz.func107, Tryz.ntmps107
  go_wp2
  go_ret
  exact ⟨ret_bool H.out, by exact bl⟩
theorem planOk_cases (p : Pl) (xs : List Shp) {n : Nat} (hx : xs.length = n) : (schOk xs = false ∧ planOk p xs = false) ∨ (schOk xs = true ∧ inB p.root 0 (n - 1) = false ∧ planOk p xs = false) ∨ (schOk xs = true ∧ inB p.root 0 (n - 1) = true ∧ inB p.deep 1 8 = false ∧ planOk p xs = false) ∨
  (schOk xs = true ∧ inB p.root 0 (n - 1) = true ∧ inB p.deep 1 8 = true ∧ planOk p xs = inB p.most 0 2000) := by
 simp only [planOk, hx]
 cases schOk xs <;> cases inB p.root 0 (n - 1) <;> cases inB p.deep 1 8 <;> simp
set_option maxHeartbeats 2000000 in
theorem specPlanOk_any (a : Option Addr) (cap n : Nat) (p : Pl) (xs : List Shp) (w : World) (h : Shs w a xs) (hx : xs.length = n) (hn : n ≤ 1048576) (hm : fldSum xs ≤ 1048576) :
  Calls Tryz.prog 67 #[p.val (.slice a n cap)] w fun r w' => r = .returned (.bool (planOk p xs)) ∧ Below w.heap.size w w' := by
 have HC := Lib.hid (planOk_cases p xs hx)
 have HX := Lib.hid hx; clear hx
 have HSs := Lib.hid h; clear h
 rcases HC.out with ⟨h1, h2⟩ | ⟨h1, h3, h2⟩ | ⟨h1, h3, h4, h2⟩ | ⟨h1, h3, h4, h2⟩
 all_goals
  rw [h2]
  have H1 := Lib.hid h1
  clear h1 h2
  go_enter Tryz.func67, Tryz.ntmps67
  go_wp2_with fail
  refine (specSchemaOk_any _ _ _ xs _ (HSs.out.keep bl) HX.out hn hm).mono ?_
  rintro r w1 ⟨rfl, hb1⟩
  have hz1 := hb1.size
  try simp only [World.size_alloc, World.size_setCell, World.size_drew] at hz1
  have hb1b : Below w.heap.size w w1 := by exact bl
  have kA := box_new0 hb1
  have hBA := box_lt0 hb1
  try simp only [World.size_alloc, World.size_setCell, World.size_drew] at kA
  try simp only [World.size_alloc, World.size_setCell, World.size_drew] at hBA
  clear hb1; have hb1 := hb1b; clear hb1b
  rw [H1.out]
  go_wp2_with (first | (go_at_call 51; refine (l1In_any _ _ _ _).mono ?_; rintro r w2 ⟨rfl, rfl⟩))
  go_ret
  exact ⟨rfl, by exact bl⟩
set_option maxHeartbeats 2000000 in
theorem implPlanOk_any (a : Option Addr) (cap n : Nat) (p : Pl) (xs : List Shp) (w : World) (h : Shs w a xs) (hx : xs.length = n) (hn : n ≤ 1048576) (hm : fldSum xs ≤ 1048576) :
  Calls Tryz.prog 119 #[p.val (.slice a n cap)] w fun r w' => r = .returned (.bool (planOk p xs)) ∧ Below w.heap.size w w' := by
 have HC := Lib.hid (planOk_cases p xs hx)
 have HX := Lib.hid hx; clear hx
 have HSs := Lib.hid h; clear h
 rcases HC.out with ⟨h1, h2⟩ | ⟨h1, h3, h2⟩ | ⟨h1, h3, h4, h2⟩ | ⟨h1, h3, h4, h2⟩
 all_goals
  rw [h2]
  have H1 := Lib.hid h1
  clear h1 h2
  go_enter Tryz.func119, Tryz.ntmps119
  go_wp2_with fail
  refine (implSchemaOk_any _ _ _ xs _ (HSs.out.keep bl) HX.out hn hm).mono ?_
  rintro r w1 ⟨rfl, hb1⟩
  have hz1 := hb1.size
  try simp only [World.size_alloc, World.size_setCell, World.size_drew] at hz1
  have hb1b : Below w.heap.size w w1 := by exact bl
  have kA := box_new0 hb1
  have hBA := box_lt0 hb1
  try simp only [World.size_alloc, World.size_setCell, World.size_drew] at kA
  try simp only [World.size_alloc, World.size_setCell, World.size_drew] at hBA
  clear hb1; have hb1 := hb1b; clear hb1b
  rw [H1.out]
  go_wp2_with (first | (go_at_call 100; refine (within_any _ _ _ _).mono ?_; rintro r w2 ⟨rfl, rfl⟩))
  go_ret
  exact ⟨rfl, by exact bl⟩
theorem lvl_nil {w : World} {a : Option Addr} {cap : Nat} {ls : List Lvl} (h : Lvls w a ls) (hn : a = none → cap = 0) : a = none → ls.length = 0 ∧ cap = 0 := fun e => ⟨by rw [e] at h; rw [sl_none h]; rfl, hn e⟩
theorem sl_newsN {α : Type} {sz : Nat} {cs : α → List Value} {w : World} {a : Option Addr} {xs : List α} (hsz : 0 < sz) (hcs : ∀ x, (cs x).length = sz) (h : Sl sz cs w a xs) :
  ∀ (ad : Addr), a = some ad → ∀ (j : Nat) (u : Value), (xs.flatMap cs)[j]? = some u → w.cell? (ad.add j) = some u := fun ad e => sl_news hsz hcs (by rw [← e]; exact h)
theorem OwnShs.chain {w w' : World} {base B n : Nat} {T TF : TypeId} {v : Value} {rs : List ShR} {xs : List Shp} (h : OwnShs w base T TF v n rs xs) (hb : Below B w w') (hB : w.heap.size ≤ B) : OwnShs w' base T TF v n rs xs := h.below hb hB
set_option maxRecDepth 100000 in
set_option maxHeartbeats 4000000 in
theorem l14Copy_any (d : Dc) (a : Option Addr) (cap : Nat) (xs : List Shp) (sa : Option Addr) (scap : Nat) (ls : List Lvl) (w : World) (h : ShsC w a xs) (h' : Lvls w sa ls) (hn : xs.length ≤ 1048576) (hm : fldSum xs ≤ 1048576) (hm' : ls.length ≤ 1048576) (hnil : sa = none → scap = 0) :
  Calls Tryz.prog 39 #[d.val (.slice a xs.length cap) (.slice sa ls.length scap)] w (FreshDec w 77 34 67 d xs ls) := by
 have HSs := Lib.hid h; clear h
 have HSl := Lib.hid h'; clear h'
 have hnil2 := lvl_nil HSl.out hnil
 obtain ⟨i0, hi, hj0, hj1, hj2⟩ := info_parts info_Level
 go_enter Tryz.func39, Tryz.ntmps39
 go_wp2_with fail
 refine (l8Copy_any a cap xs.length xs _ (ShsC.keep HSs.out bl) rfl hn hm).mono ?_
 rintro r w1 ⟨a1, cap1, rs1, rfl, ho1, hb1⟩
 have P1 := Lib.hid (OwnShs.le ho1 (show w.heap.size + 1 + 1 ≤ _ by simp)); clear ho1
 have hz1 := hb1.size
 simp only [World.size_alloc] at hz1
 have hA_ : w1.heap[w.heap.size]? = some (.cells (Dc.cl d (.slice a xs.length cap) (.slice sa ls.length scap)).toArray 40 (0, 0)) := (hb1.block _ (by simp; omega)).trans (hset_alloc (hset_new rfl))
 have hR_ : w1.heap[w.heap.size + 1]? = some (.cells dz0.toArray 40 (0, 0)) := (hb1.block _ (by simp)).trans (hset_new (by simp))
 have hb1b : Below w.heap.size w w1 := by exact bl
 have kA := box_cells hA_; have fA := box_frozen hA_; have hBA := box_lt hA_; have HA := Lib.hid hA_; clear hA_
 have HR := Lib.hid hR_; clear hR_
 clear hb1
 have HB : Hid (((w1.setCell ⟨w.heap.size, 0, none⟩ (.slice a1 xs.length cap1)).alloc (.cells #[] 67)).ownsRow w1.heap.size 67 2 (.slice (some ⟨w1.heap.size, 0, none⟩) 0 0) 0 []) := Lib.hid (by have h0 := own_built (w1.setCell ⟨w.heap.size, 0, none⟩ (.slice a1 xs.length cap1)) 67 2; rw [World.size_setCell] at h0; exact h0)
 have HN := Lib.hid (sl_newsN (w := (w1.setCell ⟨w.heap.size, 0, none⟩ (.slice a1 xs.length cap1)).alloc (.cells #[] 67)) (cs := Lvl.cs) (by omega) lvl_len (Sl.keep HSl.out bl))
 go_wp2_with (first
  | (at_builtin; refine wpList_append_any rfl _ _ 29 rfl w1.heap.size 67 i0 _ 2 16 Tryz.underlying29 hi hj0 hj1 hj2 rfl (by decide) _ 0 [] rfl HB.out sa ls.length scap (ls.flatMap Lvl.cs) rfl hnil2 (by rw [flatMap_len lvl_len]) HN.out (flat_one lvl_one _) (by unfold maxLen; omega) (by omega) (by simp) ?_; intro v2 w2 hown2 hgr2; obtain ⟨a2, cap2, rfl, _⟩ := own_sh hown2; have ho2 := hown2; simp only [Nat.zero_add, List.nil_append] at ho2; clear hown2; have P2 := Lib.hid (owns_le ho2 (show w.heap.size + 1 + 1 ≤ w1.heap.size by omega)); clear ho2; have hbg : Below w1.heap.size (w1.setCell ⟨w.heap.size, 0, none⟩ (.slice a1 xs.length cap1)) w2 := below_grown bl hgr2 (fun g e => by have e' : w1.heap.size = g := Option.some.inj e; omega) (by simp); have hz2 := hbg.size; simp only [World.size_setCell] at hz2; have P1_ := Lib.hid ((P1.out.set (p := ⟨w.heap.size, 0, none⟩) (by simp; omega) (.slice a1 xs.length cap1)).chain hbg (by simp)); clear P1; have P1 := P1_; clear P1_; have hA_ : w2.heap[w.heap.size]? = some (.cells (Dc.cl d (.slice a1 xs.length cap1) (.slice sa ls.length scap)).toArray 40 (0, 0)) := (hbg.block _ (by omega)).trans (hset_same HA.out rfl); have hR_ : w2.heap[w.heap.size + 1]? = some (.cells dz0.toArray 40 (0, 0)) := (hbg.block _ (by omega)).trans (hset_other HR.out (by simp)); have hb2 : Below w.heap.size w w2 := (hb1b.setCell (by simp) _).trans (hbg.mono (by omega)); clear kA fA HA HR hBA HB HN hgr2; have kA := box_cells hA_; have fA := box_frozen hA_; have hBA := box_lt hA_; have HA := Lib.hid hA_; clear hA_; have HR := Lib.hid hR_; clear hR_; simp only [Nat.zero_add])
  | (refine wlm w.heap.size (Dc.cl d (.slice a1 xs.length cap1) (.slice a2 ls.length cap2)) (range_of_box (t := 40) (hset_same HA.out rfl)) ?_)
  | (refine wsq (w.heap.size + 1) (Dc.cl d (.slice a1 xs.length cap1) (.slice a2 ls.length cap2)).toArray (hset_other HR.out (by simp)) (one_Dec _ _ _ _ _ _ _) ?_))
 refine bodyPost_world ?_
 intro W hW
 have hR_ : W.heap[w.heap.size + 1]? = some (.cells (Dc.cl d (.slice a1 xs.length cap1) (.slice a2 ls.length cap2)).toArray 40 (0, 0)) := by rw [hW]; exact hset_row (cs := dz0.toArray) (hset_other HR.out (by simp))
 have hbW : Below w.heap.size w W := by rw [hW]; exact bl
 have Q1 : OwnShs W (w.heap.size + 1 + 1) 77 34 (.slice a1 xs.length cap1) xs.length rs1 xs := by rw [hW]; exact OwnShs.setRow (P1.out.set (by simp; omega) _) (by omega) _
 have Q2 : W.ownsRow (w.heap.size + 1 + 1) 67 2 (.slice a2 ls.length cap2) ls.length (ls.flatMap Lvl.cs) := by rw [hW]; exact owns_setRow (owns_set P2.out (by simp; omega) _) (by omega) _
 exact bodyPost_ret (v := d.val (.slice a1 xs.length cap1) (.slice a2 ls.length cap2)) (results_cell Tryz.results39 rfl (run_loadVar_mid W (w.heap.size + 1) 0 40 (Dc.cl d (.slice a1 xs.length cap1) (.slice a2 ls.length cap2)) _ (range_of_box hR_) Tryz.underlying40 rfl size_Dec)) rfl ⟨a1, cap1, rs1, a2, cap2, rfl, Q1.le (by omega), owns_le Q2 (by omega), hbW⟩
set_option maxRecDepth 100000 in
set_option maxHeartbeats 2000000 in
theorem copyPlan_any (p : Pl) (a : Option Addr) (cap n : Nat) (xs : List Shp) (w : World) (h : ShsC w a xs) (hx : xs.length = n) (hn : n ≤ 1048576) (hm : fldSum xs ≤ 1048576) :
  Calls Tryz.prog 98 #[p.val (.slice a n cap)] w (FreshPlan w 77 34 n p xs) := by
 have HX := Lib.hid hx; clear hx
 have HSs := Lib.hid h; clear h
 go_enter Tryz.func98, Tryz.ntmps98
 go_wp2_with fail
 refine (copySchema_any a cap n xs _ (HSs.out.keep bl) HX.out hn hm).mono ?_
 rintro r w1 ⟨a1, cap1, rs1, rfl, ho1, hb1⟩
 have hz1 := hb1.size
 simp only [World.size_alloc] at hz1
 have P1 := Lib.hid (OwnShs.le ho1 (show w.heap.size + 1 + 1 ≤ _ by simp)); clear ho1
 have hA_ : w1.heap[w.heap.size]? = some (.cells #[.slice a n cap, .int .i64 p.root, .int .i64 p.deep, .int .i64 p.most] 28 (0, 0)) := (hb1.block _ (by simp; omega)).trans (hset_alloc (hset_new rfl))
 have hR_ : w1.heap[w.heap.size + 1]? = some (.cells #[.slice none 0 0, .int .i64 0, .int .i64 0, .int .i64 0] 28 (0, 0)) := (hb1.block _ (by simp)).trans (hset_new (by simp))
 have hb1b : Below w.heap.size w w1 := by exact bl
 clear hb1
 have kA := box_cells hA_; have fA := box_frozen hA_; have hBA := box_lt hA_
 have kR := box_cells hR_; have fR := box_frozen hR_; have hBR := box_lt hR_
 have HR := Lib.hid hR_; clear hR_ hA_
 go_wp2
 have hW := hset_set (o := 3) (v := .int .i64 p.most) (hset_set (o := 2) (v := .int .i64 p.deep) (hset_set (o := 1) (v := .int .i64 p.root) (hset_set (o := 0) (v := .slice a1 n cap1) (hset_other (p := ⟨w.heap.size, 0, none⟩) (v := .slice a1 n cap1) HR.out (by simp)))))
 have kW := box_cells hW
 simp only [List.setIfInBounds_toArray, List.set_cons_zero, List.set_cons_succ] at kW
 refine bodyPost_ret (v := p.val (.slice a1 n cap1)) (by simp [results, Tryz.results98, go_sem, kW]) rfl ⟨a1, cap1, rs1, rfl, ?_, by exact bl⟩
 ((first | refine owns_le (base := ?_) ?_ ?_ | refine OwnShs.le (base := ?_) ?_ ?_); rotate_left; (repeat (first | (refine owns_set ?_ ?_ _) | (refine OwnShs.set ?_ ?_ _) | exact P1.out)); all_goals (first | omega | (simp; done) | (simp; omega)))
set_option maxRecDepth 100000 in
set_option maxHeartbeats 4000000 in
theorem copyDec_any (d : Dc) (a : Option Addr) (cap : Nat) (xs : List Shp) (sa : Option Addr) (scap : Nat) (ls : List Lvl) (w : World) (h : ShsC w a xs) (h' : Lvls w sa ls) (hn : xs.length ≤ 1048576) (hm : fldSum xs ≤ 1048576) (hm' : ls.length ≤ 1048576) (hnil : sa = none → scap = 0) :
  Calls Tryz.prog 64 #[d.val (.slice a xs.length cap) (.slice sa ls.length scap)] w (FreshDec w 77 34 67 d xs ls) := by
 have HSs := Lib.hid h; clear h
 have HSl := Lib.hid h'; clear h'
 go_enter Tryz.func64, Tryz.ntmps64
 go_wp2_with fail
 obtain ⟨w0, hw0⟩ : ∃ w0, w0 = (w.alloc (.cells (Dc.cl d (.slice a xs.length cap) (.slice sa ls.length scap)).toArray 40)).alloc (.cells dz0.toArray 40) := ⟨_, rfl⟩
 rw [← hw0]
 have hA_ : w0.heap[w.heap.size]? = some (.cells (Dc.cl d (.slice a xs.length cap) (.slice sa ls.length scap)).toArray 40 (0, 0)) := by rw [hw0]; exact hset_alloc (hset_new rfl)
 have hR_ : w0.heap[w.heap.size + 1]? = some (.cells dz0.toArray 40 (0, 0)) := by rw [hw0]; exact hset_new (by simp)
 have hb0 : Below w.heap.size w w0 := by rw [hw0]; exact bl
 have hz0 : w0.heap.size = w.heap.size + 1 + 1 := by rw [hw0]; simp
 clear hw0
 have kA := box_cells hA_
 refine wp_region_till (Cells [(⟨w.heap.size, 0, none⟩, .slice a xs.length cap), (⟨w.heap.size, 1, none⟩, .int .i64 d.p.root), (⟨w.heap.size, 2, none⟩, .int .i64 d.p.deep), (⟨w.heap.size, 3, none⟩, .int .i64 d.p.most), (⟨w.heap.size, 5, none⟩, .slice sa ls.length scap)]) (fun i => decide (7 ≤ i)) (by kernel_rfl) ?_
 have hS : Cells [(⟨w.heap.size, 0, none⟩, .slice a xs.length cap), (⟨w.heap.size, 1, none⟩, .int .i64 d.p.root), (⟨w.heap.size, 2, none⟩, .int .i64 d.p.deep), (⟨w.heap.size, 3, none⟩, .int .i64 d.p.most), (⟨w.heap.size, 5, none⟩, .slice sa ls.length scap)] w0.drew := cells_mk (kA 0) (cells_mk (kA 1) (cells_mk (kA 2) (cells_mk (kA 3) (cells_mk (kA 5) (cells_no _)))))
 clear kA
 have HA := Lib.hid hA_; clear hA_
 have HR := Lib.hid hR_; clear hR_
 refine tk (i := 0) hS ?_
 refine tk (i := 1) hS ?_
 refine tk (i := 3) hS ?_
 refine tk (i := 4) hS ?_
 refine wpTill_op (i := 2) (by kernel_rfl) rfl (fun K hK => ?_)
 go_simp
 refine (copyPlan_any d.p a cap xs.length xs _ (HSs.out.keep bl) rfl hn hm).mono ?_
 rintro r w1 ⟨a1, cap1, rs1, rfl, ho1, hb1⟩
 refine hK.out _ _ (fun _ => hS.below hb1) ?_
 have hS1 := hS.below hb1; clear hS; have hS := hS1; clear hS1
 clear hK K
 have hz1 := hb1.size
 simp only [World.size_drew] at hz1
 have P1 := Lib.hid (OwnShs.le ho1 (show w.heap.size + 1 + 1 ≤ _ by simp; omega)); clear ho1
 have hb01 : Below w0.heap.size w0 w1 := by exact bl
 try simp only [Act.put, List.setIfInBounds_toArray, List.set_cons_zero, List.set_cons_succ]
 refine tk (i := 6) hS ?_
 refine wpTill_op (i := 5) (by kernel_rfl) rfl (fun K hK => ?_)
 go_simp
 refine (cloneLvl_any sa scap ls.length ls _ (Sl.keep HSl.out (hb0.trans (hb01.mono (by omega)))) rfl (by omega) hnil).mono ?_
 rintro r w2 ⟨a2, cap2, rfl, ho2, hb2⟩
 refine hK.out _ _ (fun _ => hS.below hb2) ?_
 have hS1 := hS.below hb2; clear hS; have hS := hS1; clear hS1
 clear hK K
 have P2 := Lib.hid (owns_le ho2 (show w.heap.size + 1 + 1 ≤ _ by omega)); clear ho2
 have P1_ := Lib.hid (P1.out.chain hb2 (Nat.le_refl _)); clear P1
 have P1 := P1_; clear P1_
 have hb02 : Below w0.heap.size w0 w2 := hb01.trans (hb2.mono hb01.size)
 have hz2 := hb02.size
 have hA_ : w2.heap[w.heap.size]? = some (.cells (Dc.cl d (.slice a xs.length cap) (.slice sa ls.length scap)).toArray 40 (0, 0)) := (hb02.block _ (by omega)).trans HA.out
 have hR_ : w2.heap[w.heap.size + 1]? = some (.cells dz0.toArray 40 (0, 0)) := (hb02.block _ (by omega)).trans HR.out
 clear HA HR
 have kA := box_cells hA_; have fA := box_frozen hA_; have hBA := box_lt hA_; have HA := Lib.hid hA_; clear hA_
 have HR := Lib.hid hR_; clear hR_
 try simp only [Act.put, List.setIfInBounds_toArray, List.set_cons_zero, List.set_cons_succ]
 refine wpTill_op (i := 7) (by kernel_rfl) rfl (fun K hK => ?_)
 go_simp
 refine hK.out _ _ (fun e => by cases e) ?_
 clear hK K hS
 try simp only [Act.put, List.setIfInBounds_toArray, List.set_cons_zero, List.set_cons_succ]
 refine wpTill_op (i := 8) (by kernel_rfl) rfl (fun K hK => ?_)
 go_simp
 refine hK.out _ _ (fun e => by cases e) ?_
 clear hK K
 try simp only [Act.put, List.setIfInBounds_toArray, List.set_cons_zero, List.set_cons_succ]
 refine wpTill_op (i := 9) (by kernel_rfl) rfl (fun K hK => ?_)
 go_simp
 refine hK.out _ _ (fun e => by cases e) ?_
 clear hK K
 try simp only [Act.put, List.setIfInBounds_toArray, List.set_cons_zero, List.set_cons_succ]
 refine wpTill_done (by kernel_rfl) ?_ _
 obtain ⟨w3, hw3⟩ : ∃ w3, w3 = ((((w2.setCell ⟨w.heap.size, 0, none⟩ (.slice a1 xs.length cap1)).setCell ⟨w.heap.size, 1, none⟩ (.int .i64 d.p.root)).setCell ⟨w.heap.size, 2, none⟩ (.int .i64 d.p.deep)).setCell ⟨w.heap.size, 3, none⟩ (.int .i64 d.p.most)).setCell ⟨w.heap.size, 5, none⟩ (.slice a2 ls.length cap2) := ⟨_, rfl⟩
 rw [← hw3]
 have hA_ : w3.heap[w.heap.size]? = some (.cells (Dc.cl d (.slice a1 xs.length cap1) (.slice a2 ls.length cap2)).toArray 40 (0, 0)) := by rw [hw3]; exact hset_same (hset_same (hset_same (hset_same (hset_same HA.out rfl) rfl) rfl) rfl) rfl
 have hR_ : w3.heap[w.heap.size + 1]? = some (.cells dz0.toArray 40 (0, 0)) := by rw [hw3]; exact hset_other (hset_other (hset_other (hset_other (hset_other HR.out (by simp)) (by simp)) (by simp)) (by simp)) (by simp)
 have hb3 : Below w.heap.size w w3 := by rw [hw3]; exact ((((((hb0.trans (hb02.mono (by omega))).setCell (by simp) _).setCell (by simp) _).setCell (by simp) _).setCell (by simp) _).setCell (by simp) _)
 have P1_ : OwnShs w3 (w.heap.size + 1 + 1) 77 34 (.slice a1 xs.length cap1) xs.length rs1 xs := by rw [hw3]; exact ((((P1.out.set (by simp; omega) _).set (by simp; omega) _).set (by simp; omega) _).set (by simp; omega) _).set (by simp; omega) _
 have P2_ : w3.ownsRow (w.heap.size + 1 + 1) 67 2 (.slice a2 ls.length cap2) ls.length (ls.flatMap Lvl.cs) := by rw [hw3]; exact owns_set (owns_set (owns_set (owns_set (owns_set P2.out (by simp; omega) _) (by simp; omega) _) (by simp; omega) _) (by simp; omega) _) (by simp; omega) _
 clear hw3 P1 P2 HA HR kA fA hBA
 have P1 := Lib.hid P1_; clear P1_
 have P2 := Lib.hid P2_; clear P2_
 have HA := Lib.hid hA_; clear hA_
 have HR := Lib.hid hR_; clear hR_
 go_wp2_with (first
  | (refine wlm w.heap.size (Dc.cl d (.slice a1 xs.length cap1) (.slice a2 ls.length cap2)) (range_of_box (t := 40) HA.out) ?_)
  | (refine wsq (w.heap.size + 1) (Dc.cl d (.slice a1 xs.length cap1) (.slice a2 ls.length cap2)).toArray HR.out (one_Dec _ _ _ _ _ _ _) ?_))
 refine bodyPost_world ?_
 intro W hW
 have hR_ : W.heap[w.heap.size + 1]? = some (.cells (Dc.cl d (.slice a1 xs.length cap1) (.slice a2 ls.length cap2)).toArray 40 (0, 0)) := by rw [hW]; exact hset_row (cs := dz0.toArray) HR.out
 have hbW : Below w.heap.size w W := by rw [hW]; exact bl
 have Q1 : OwnShs W (w.heap.size + 1 + 1) 77 34 (.slice a1 xs.length cap1) xs.length rs1 xs := by rw [hW]; exact OwnShs.setRow P1.out (by omega) _
 have Q2 : W.ownsRow (w.heap.size + 1 + 1) 67 2 (.slice a2 ls.length cap2) ls.length (ls.flatMap Lvl.cs) := by rw [hW]; exact owns_setRow P2.out (by omega) _
 exact bodyPost_ret (v := d.val (.slice a1 xs.length cap1) (.slice a2 ls.length cap2)) (results_cell Tryz.results64 rfl (run_loadVar_mid W (w.heap.size + 1) 0 40 (Dc.cl d (.slice a1 xs.length cap1) (.slice a2 ls.length cap2)) _ (range_of_box hR_) Tryz.underlying40 rfl size_Dec)) rfl ⟨a1, cap1, rs1, a2, cap2, rfl, Q1.le (by omega), owns_le Q2 (by omega), hbW⟩
end Go.Proofs.YtabdjimjelfbfaaGreat
namespace Go.Proofs.YtabdjimjelfbfaaGreat
set_option linter.unusedSimpArgs false
set_option linter.unusedVariables false
open Go.ChangeShapes Go.WideShapes Go.ChangeAt Go.RowKit
@[go_sem] def arrElem (P : Program) (t : TypeId) : TypeId := match P.underlying t with | some (.array _ e) => e | _ => 0
@[go_sem] def arrLen (P : Program) (t : TypeId) : Nat := match P.underlying t with | some (.array m _) => m | _ => 0
@[go_sem] theorem run_index_arr {P : Program} {w : World} {t : TypeId} {cs : Array Value} {k : IntKind} {n : Int} (ht : P.underlying t = some (.array (arrLen P t) (arrElem P t)))
  (h0 : 0 ≤ n) (h1 : n < arrLen P t) (hagg : (isAgg (arrElem P t)).run P w = .ok false w) (hs : (sizeOf (arrElem P t)).run P w = .ok 1 w) (hv : n.toNat < cs.size) : (Instr.index t (.agg cs) (.int k n)).run P w = .ok (cs.getD n.toNat undef) w := by
 have h2 : 0 ≤ n ∧ n < arrLen P t := ⟨h0, h1⟩
 simp only [Instr.index, asIntOf, part]
 simp only [Sem.run_bind, Sem.run_pure, Result.andThen_ok, run_underlying ht]
 simp [h2, hagg, hs, hv]
end Go.Proofs.YtabdjimjelfbfaaGreat

/- Texts that CompL leans on, part 4. (Put together by wip/tools/bundle.py.) -/
import Derived.Lib.Slices
import Derived.Sort.OwnSortedInts
import Derived.Shelf.GgSortFunc.InsertionK
import Derived.Sort.LotA
import Derived.Shelf.SlSortCmp.Insertion
import Derived.Lib.Small
import Derived.Test.YtbpilecgnfnndaaShelf
import Derived.Test.YtbpilecgnfnndaaComp1
import Derived.Test.YtbpilecgnfnndaaComp2
import Derived.Test.YtbpilecgnfnndaaComp3
namespace Go.Proofs.Ytbpilecgnfnndaa
set_option linter.unusedSimpArgs false
set_option linter.unusedVariables false
open Go.ChangeShapes Go.WideShapes Go.ChangeAt Go.RowKit Go.BigFrame
theorem filt_len : ∀ {ss : List Int} {k : Nat} {z : Int}, ss.Pairwise (· < ·) → ss[k]? = some z → (ss.filter fun y => decide (y < z)).length = k
  | [], k, z, _, h => by simp at h
  | s :: ss, 0, z, hp, h => by
    simp only [List.getElem?_cons_zero, Option.some.injEq] at h
    subst h
    rw [List.filter_cons_of_neg (by simp)]
    rw [List.length_eq_zero_iff, List.filter_eq_nil_iff]
    intro y hy
    have := (List.pairwise_cons.1 hp).1 y hy
    simp; omega
  | s :: ss, k + 1, z, hp, h => by
    simp only [List.getElem?_cons_succ] at h
    have hp' := List.pairwise_cons.1 hp
    have := hp'.1 z (List.mem_of_getElem? h)
    rw [List.filter_cons_of_pos (by simpa using this), List.length_cons, filt_len hp'.2 h]
def sortI (zs : List Int) : List Int := zs.mergeSort fun x y => decide (x ≤ y)
theorem sortI_perm (zs : List Int) : (sortI zs).Perm zs := List.mergeSort_perm _ _
theorem sortI_len (zs : List Int) : (sortI zs).length = zs.length := (sortI_perm zs).length_eq
theorem sortI_lt {zs : List Int} (h : zs.Nodup) : (sortI zs).Pairwise (· < ·) := by
  have h1 : (sortI zs).Pairwise (fun a b => decide (a ≤ b) = true) := List.pairwise_mergeSort (by intro a b c; simp; omega) (by intro a b; simp; omega) zs
  have h2 : (sortI zs).Pairwise (· ≠ ·) := List.nodup_iff_pairwise_ne.1 ((sortI_perm zs).nodup_iff.2 h)
  exact (h1.and h2).imp (by rintro a b ⟨h, h'⟩; simp at h; omega)
def rankI (zs : List Int) (z : Int) : Nat := (zs.filter fun y => decide (y < z)).length
theorem rankI_at {zs : List Int} (h : zs.Nodup) {k : Nat} {z : Int} (hz : (sortI zs)[k]? = some z) : rankI zs z = k := by
  rw [rankI, ← ((sortI_perm zs).filter _).length_eq]; exact filt_len (sortI_lt h) hz
theorem rankS_eq (xs : List Shp) (z : Int) : rankS xs z = rankI (xs.map Shp.id) z := by
  rw [rankS, rankI, List.filter_map, List.length_map]; rfl
theorem idx_at {zs : List Int} (h : zs.Nodup) {k : Nat} {z : Int} (hz : (sortI zs)[k]? = some z) : Lib.idxOf (sortI zs) z = k := by
  obtain ⟨hk, he⟩ := List.getElem?_eq_some_iff.1 hz
  have := Lib.idxFrom_hit z (sortI zs) k 0 hk (by rw [List.getD_eq_getElem?_getD, hz]; rfl) (by
    intro j hj e
    have hp := List.pairwise_iff_getElem.1 (sortI_lt h) j k (by omega) hk hj
    rw [List.getD_eq_getElem?_getD, List.getElem?_eq_getElem (by omega), Option.getD_some] at e
    rw [e, he] at hp; omega)
  simpa [Lib.idxOf] using this
theorem rank_idx {zs : List Int} (h : zs.Nodup) {z : Int} (hz : z ∈ zs) : Lib.idxOf (sortI zs) z = rankI zs z := by
  obtain ⟨k, hk⟩ := List.getElem?_of_mem ((sortI_perm zs).mem_iff.2 hz)
  rw [idx_at h hk, rankI_at h hk]
structure RawVal (xs : List Shp) : Prop where
  n : xs.length ≤ 6
  msg : ∀ (i : Nat) (x : Shp), xs[i]? = some x → msgC xs i x = 0
  fld : ∀ (i : Nat) (x : Shp), xs[i]? = some x → ∀ (k : Nat) (f : Fld), x.flds[k]? = some f → fldC xs x.flds k f = 0
theorem firstF_some {xs : List Shp} {i : Nat} {fs : List Fld} : ∀ {rest : List Fld} {k : Nat} {v : Int × Int × Int}, firstF xs i fs k rest = some v → v.1 ≠ 0
  | [], k, v, h => by simp [firstF] at h
  | f :: rest, k, v, h => by
    rw [firstF] at h
    by_cases hz : fldC xs fs k f = 0
    · rw [if_pos hz] at h; exact firstF_some h
    · rw [if_neg hz] at h; simp only [Option.some.injEq] at h; subst h; exact hz
theorem firstF_no {xs : List Shp} {i : Nat} {fs : List Fld} : ∀ {rest : List Fld} {k : Nat}, fs.drop k = rest → firstF xs i fs k rest = none → ∀ (j : Nat) (f : Fld), k ≤ j → fs[j]? = some f → fldC xs fs j f = 0
  | [], k, hd, h, j, f, hkj, hf => by
    have := List.drop_eq_nil_iff.1 hd
    obtain ⟨hj, _⟩ := List.getElem?_eq_some_iff.1 hf
    omega
  | g :: rest, k, hd, h, j, f, hkj, hf => by
    rw [firstF] at h
    by_cases hz : fldC xs fs k g = 0
    · rw [if_pos hz] at h
      have hg : fs[k]? = some g := by have := congrArg List.head? hd; rw [List.head?_drop] at this; simpa using this
      rcases Nat.eq_or_lt_of_le hkj with rfl | hlt
      · rw [hg] at hf; cases hf; exact hz
      · exact firstF_no (by have := congrArg List.tail hd; rw [List.tail_drop] at this; simpa using this) h j f hlt hf
    · rw [if_neg hz] at h; simp at h
theorem firstM_no {xs : List Shp} : ∀ {rest : List Shp} {i : Nat}, xs.drop i = rest → (firstM xs i rest).1 = 0 → ∀ (j : Nat) (x : Shp), i ≤ j → xs[j]? = some x → msgC xs j x = 0 ∧ ∀ (k : Nat) (f : Fld), x.flds[k]? = some f → fldC xs x.flds k f = 0
  | [], i, hd, h, j, x, hij, hx => by
    have := List.drop_eq_nil_iff.1 hd
    obtain ⟨hj, _⟩ := List.getElem?_eq_some_iff.1 hx
    omega
  | y :: rest, i, hd, h, j, x, hij, hx => by
    rw [firstM] at h
    by_cases hz : msgC xs i y = 0
    · rw [if_pos hz] at h
      have hy : xs[i]? = some y := by have := congrArg List.head? hd; rw [List.head?_drop] at this; simpa using this
      cases hF : firstF xs i y.flds 0 y.flds with
      | some v => rw [hF] at h; exact absurd h (firstF_some hF)
      | none =>
        rw [hF] at h
        rcases Nat.eq_or_lt_of_le hij with rfl | hlt
        · rw [hy] at hx; cases hx
          exact ⟨hz, fun k f hf => firstF_no (by simp) hF k f (Nat.zero_le _) hf⟩
        · exact firstM_no (by have := congrArg List.tail hd; rw [List.tail_drop] at this; simpa using this) h j x hlt hx
    · rw [if_neg hz] at h; exact absurd h hz
theorem val_of {xs : List Shp} (h : (firstV xs).1 = 0) : RawVal xs := by
  by_cases h6 : 6 < xs.length
  · rw [firstV, if_pos h6] at h; simp at h
  · rw [firstV, if_neg h6] at h
    have := firstM_no (xs := xs) (by simp) h
    exact ⟨by omega, fun i x hx => (this i x (Nat.zero_le _) hx).1, fun i x hx => (this i x (Nat.zero_le _) hx).2⟩
theorem RawVal.len {xs : List Shp} (h : RawVal xs) {x : Shp} (hx : x ∈ xs) : x.flds.length ≤ 8 := by
  obtain ⟨i, hi⟩ := List.getElem?_of_mem hx
  have := h.msg i x hi
  unfold msgC at this
  split at this
  · simp at this
  · split at this
    · simp at this
    · split at this
      · simp at this
      · omega
theorem msgC_id {xs : List Shp} {i : Nat} {x : Shp} (h : msgC xs i x = 0) : inB x.id 1 99 = true ∧ hasId (xs.take i) x.id = false := by
  unfold msgC at h
  split at h
  · simp at h
  · rename_i h1
    split at h
    · simp at h
    · rename_i h2
      exact ⟨by simpa using h1, by simpa using h2⟩
theorem RawVal.nodup {xs : List Shp} (h : RawVal xs) : (xs.map Shp.id).Nodup := by
  rw [List.nodup_iff_pairwise_ne, List.pairwise_iff_getElem]
  intro i j hi hj hij e
  rw [List.length_map] at hi hj
  simp only [List.getElem_map] at e
  have h2 := (msgC_id (h.msg j xs[j] (List.getElem?_eq_getElem hj))).2
  rw [hasId, List.any_eq_false] at h2
  have := h2 xs[i] (List.mem_of_getElem? (i := i) (by rw [List.getElem?_take]; simp [hij, List.getElem?_eq_getElem hi]))
  simp [e] at this
theorem fldC_num {xs : List Shp} {fs : List Fld} {k : Nat} {f : Fld} (h : fldC xs fs k f = 0) : hasNum (fs.take k) f.number = false ∧ refBad xs f = false := by
  unfold fldC at h
  split at h
  · simp at h
  · split at h
    · simp at h
    · rename_i h2
      split at h
      · simp at h
      · split at h
        · simp at h
        · split at h
          · simp at h
          · rename_i h5
            exact ⟨by simpa using h2, by simpa using h5⟩
def NumInj (fs : List Fld) : Prop := ∀ f ∈ fs, ∀ g ∈ fs, f.number = g.number → f = g
theorem RawVal.inj {xs : List Shp} (h : RawVal xs) {x : Shp} (hx : x ∈ xs) : NumInj x.flds := by
  obtain ⟨i, hi⟩ := List.getElem?_of_mem hx
  have key : ∀ (j k : Nat) (f g : Fld), x.flds[j]? = some f → x.flds[k]? = some g → j < k → f.number ≠ g.number := by
    intro j k f g hf hg hjk e
    have h2 := (fldC_num (h.fld i x hi k g hg)).1
    rw [hasNum, List.any_eq_false] at h2
    have := h2 f (List.mem_of_getElem? (i := j) (by rw [List.getElem?_take]; simp [hjk, hf]))
    simp [e] at this
  intro f hf g hg e
  obtain ⟨j, hj⟩ := List.getElem?_of_mem hf
  obtain ⟨k, hk⟩ := List.getElem?_of_mem hg
  rcases Nat.lt_trichotomy j k with hlt | rfl | hlt
  · exact absurd e (key j k f g hj hk hlt)
  · rw [hj] at hk; cases hk; rfl
  · exact absurd e.symm (key k j g f hk hj hlt)
theorem RawVal.ref {xs : List Shp} (h : RawVal xs) {x : Shp} (hx : x ∈ xs) {f : Fld} (hf : f ∈ x.flds) (h8 : f.kind = 8) : f.msg ∈ xs.map Shp.id := by
  obtain ⟨i, hi⟩ := List.getElem?_of_mem hx
  obtain ⟨k, hk⟩ := List.getElem?_of_mem hf
  have h2 := (fldC_num (h.fld i x hi k f hk)).2
  rw [refBad, if_pos h8] at h2
  simp only [Bool.not_eq_false', hasId, List.any_eq_true] at h2
  obtain ⟨y, hy, e⟩ := h2
  simp only [beq_iff_eq] at e
  exact List.mem_map.2 ⟨y, hy, e⟩
def ifld (ids : List Int) (f : Fld) : Fld := ⟨f.number, f.kind, f.rep, f.packed, if f.kind = 8 then Lib.idxOf ids f.msg else -1⟩
theorem ifld_eq {xs : List Shp} (h : RawVal xs) {x : Shp} (hx : x ∈ xs) {f : Fld} (hf : f ∈ x.flds) : ifld (sortI (xs.map Shp.id)) f = cfld xs f := by
  unfold ifld cfld
  by_cases h8 : f.kind = 8
  · rw [if_pos h8, if_pos h8, rank_idx h.nodup (h.ref hx hf h8), rankS_eq]
  · rw [if_neg h8, if_neg h8]
def NumLe (f g : Fld) : Prop := f.number ≤ g.number
theorem putF_perm : ∀ (l : List Fld) (f : Fld), (putF l f).Perm (f :: l)
  | [], f => .refl _
  | g :: gs, f => by
    unfold putF
    split
    · exact ((putF_perm gs f).cons g).trans (.swap f g gs)
    · exact .refl _
theorem putF_sorted : ∀ {l : List Fld} {f : Fld}, l.Pairwise NumLe → (putF l f).Pairwise NumLe
  | [], f, _ => by simp [putF]
  | g :: gs, f, h => by
    have hc := List.pairwise_cons.1 h
    unfold putF
    split
    · rename_i hlt
      rw [List.pairwise_cons]
      refine ⟨fun y hy => ?_, putF_sorted hc.2⟩
      rcases List.mem_cons.1 ((putF_perm gs f).mem_iff.1 hy) with rfl | hy
      · unfold NumLe; omega
      · exact hc.1 y hy
    · rename_i hge
      rw [List.pairwise_cons]
      refine ⟨fun y hy => ?_, h⟩
      rcases List.mem_cons.1 hy with rfl | hy
      · unfold NumLe; omega
      · have := hc.1 y hy; unfold NumLe at this ⊢; omega
theorem cflds_perm (xs : List Shp) : ∀ (fs l : List Fld), (cflds xs l fs).Perm (l ++ fs.map (cfld xs))
  | [], l => by simp [cflds]
  | f :: fs, l => by
    rw [cflds, List.map_cons]
    refine (cflds_perm xs fs _).trans ?_
    refine ((putF_perm l (cfld xs f)).append_right _).trans ?_
    simpa using List.perm_middle.symm
theorem cflds_sorted (xs : List Shp) : ∀ (fs : List Fld) {l : List Fld}, l.Pairwise NumLe → (cflds xs l fs).Pairwise NumLe
  | [], l, h => h
  | f :: fs, l, h => cflds_sorted xs fs (putF_sorted h)
theorem sorted_fields {xs : List Shp} (h : RawVal xs) {x : Shp} (hx : x ∈ xs) {d : List Fld} (hp : d.Perm (x.flds.map (ifld (sortI (xs.map Shp.id))))) (hs : d.Pairwise NumLe) : d = cflds xs [] x.flds := by
  have e : x.flds.map (ifld (sortI (xs.map Shp.id))) = x.flds.map (cfld xs) := List.map_congr_left fun f hf => ifld_eq h hx hf
  rw [e] at hp
  have hq := cflds_perm xs x.flds []
  rw [List.nil_append] at hq
  refine List.Perm.eq_of_pairwise (le := NumLe) ?_ hs (cflds_sorted xs x.flds .nil) (hp.trans hq.symm)
  intro a b ha hb h1 h2
  obtain ⟨f, hf, rfl⟩ := List.mem_map.1 (hp.mem_iff.1 ha)
  obtain ⟨g, hg, rfl⟩ := List.mem_map.1 (hq.mem_iff.1 hb)
  have : f = g := h.inj hx f hf g hg (by unfold NumLe cfld at h1 h2; simp only at h1 h2; omega)
  rw [this]
theorem cgo_keep {xs : List Shp} {k : Nat} : ∀ {rest ys : List Shp}, (∀ z ∈ rest, rankS xs z.id ≠ k) → (cgo xs ys rest)[k]? = ys[k]?
  | [], ys, _ => rfl
  | z :: rest, ys, h => by
    rw [cgo, cgo_keep fun y hy => h y (List.mem_cons_of_mem _ hy), List.getElem?_set_ne (h z (List.mem_cons_self ..))]
theorem cgo_at {xs : List Shp} {x : Shp} : ∀ {rest ys : List Shp}, x ∈ rest → (∀ z ∈ rest, rankS xs z.id = rankS xs x.id → z = x) → rankS xs x.id < ys.length → (cgo xs ys rest)[rankS xs x.id]? = some ⟨x.id, cflds xs [] x.flds⟩
  | z :: rest, ys, hx, hi, hl => by
    rw [cgo]
    by_cases hr : x ∈ rest
    · exact cgo_at hr (fun y hy => hi y (List.mem_cons_of_mem _ hy)) (by rw [List.length_set]; exact hl)
    · rcases List.mem_cons.1 hx with rfl | hx'
      · rw [cgo_keep fun y hy e => hr (hi y (List.mem_cons_of_mem _ hy) e ▸ hy), List.getElem?_set_self hl]
      · exact absurd hx' hr
theorem compS_at {xs : List Shp} (h : RawVal xs) {k : Nat} {z : Int} (hz : (sortI (xs.map Shp.id))[k]? = some z) : ∃ x ∈ xs, x.id = z ∧ (compS xs)[k]? = some ⟨z, cflds xs [] x.flds⟩ := by
  obtain ⟨x, hx, rfl⟩ := List.mem_map.1 ((sortI_perm _).mem_iff.1 (List.mem_of_getElem? hz))
  refine ⟨x, hx, rfl, ?_⟩
  have hk : rankS xs x.id = k := by rw [rankS_eq]; exact rankI_at h.nodup hz
  have := cgo_at (xs := xs) (x := x) (rest := xs) (ys := List.replicate xs.length ⟨0, []⟩) hx (fun y hy e => by
    obtain ⟨j, hj⟩ := List.getElem?_of_mem ((sortI_perm (xs.map Shp.id)).mem_iff.2 (List.mem_map_of_mem (f := Shp.id) hy))
    have h1 := rankI_at h.nodup hj
    rw [← rankS_eq, e, hk] at h1
    subst h1
    rw [hz] at hj
    have e2 : x.id = y.id := Option.some.inj hj
    obtain ⟨p, hp⟩ := List.getElem?_of_mem hy
    obtain ⟨q, hq⟩ := List.getElem?_of_mem hx
    have hn := h.nodup
    rw [List.nodup_iff_pairwise_ne, List.pairwise_iff_getElem] at hn
    obtain ⟨hpl, hpe⟩ := List.getElem?_eq_some_iff.1 hp
    obtain ⟨hql, hqe⟩ := List.getElem?_eq_some_iff.1 hq
    rcases Nat.lt_trichotomy p q with hlt | rfl | hlt
    · exact (hn p q (by simpa using hpl) (by simpa using hql) hlt (by simp only [List.getElem_map, hpe, hqe, e2])).elim
    · rw [hp] at hq; exact Option.some.inj hq
    · exact (hn q p (by simpa using hql) (by simpa using hpl) hlt (by simp only [List.getElem_map, hpe, hqe, e2])).elim) (by rw [List.length_replicate]; exact rank_lt hx)
  rw [hk] at this
  exact this
end Go.Proofs.Ytbpilecgnfnndaa
namespace Go.Proofs.Ytbpilecgnfnndaa
set_option linter.unusedSimpArgs false
set_option linter.unusedVariables false
open Go.ChangeShapes Go.WideShapes Go.ChangeAt Go.RowKit Go.BigFrame Go.Sort
theorem holdsV {w : World} {g : Nat} {cur L : Array Value} {e : TypeId} (hb : w.heap[g]? = some (.cells cur e (0, 0))) (ht : cur.toList.take L.size = L.toList) : Holds id w g 0 L := by
  intro j hj
  refine ⟨?_, by simp [World.frozen?, hb]⟩
  have h1 : (cur.toList.take L.size)[j]? = L.toList[j]? := by rw [ht]
  rw [List.getElem?_take_of_lt hj, Array.getElem?_toList, Array.getElem?_toList] at h1
  rw [Array.getElem?_eq_getElem hj] at h1
  simp [World.cell?, hb, h1, getElem!_pos L j hj]
theorem heapV {α : Type} [Inhabited α] (enc : α → Value) {w : World} {g n : Nat} {os : Array Obj} {cur : Array Value} {e : TypeId} {fr : Nat × Nat} (d : Array α) (hb : w.heap[g]? = some (.cells cur e fr)) :
    (grow (putRow enc (Sort.ahead w n) g 0 d) os).heap[g]? = some (.cells (putCells enc 0 d cur) e fr) := by
  have hg : g < w.heap.size := (Array.getElem?_eq_some_iff.1 hb).1
  rw [heap_grow_old _ _ (by simpa using hg)]
  simp [putRow, mapBlock, Sort.ahead, Array.getElem?_modify, hb, onCells]
theorem grownV {α : Type} [Inhabited α] (enc : α → Value) {w : World} {g n : Nat} {os : Array Obj} (d : Array α) : w.grownBy (grow (putRow enc (Sort.ahead w n) g 0 d) os) (some g) := by
  refine ⟨rfl, rfl, rfl, by simp, fun k hk hne => ?_⟩
  rw [heap_grow_old _ _ (by simpa using hk)]
  have : g ≠ k := fun e => hne (by rw [e])
  simp [putRow, mapBlock, Sort.ahead, Array.getElem?_modify, this]
theorem takeV (cur L : Array Value) (h : L.size ≤ cur.size) : (putCells id 0 L cur).toList.take L.size = L.toList := by
  apply List.ext_getElem?
  intro j
  by_cases hj : j < L.size
  · rw [List.getElem?_take_of_lt hj, Array.getElem?_toList, Array.getElem?_toList]
    simp only [putCells, Array.getElem?_mapIdx]
    rw [Array.getElem?_eq_getElem (show j < cur.size by omega), Array.getElem?_eq_getElem hj]
    simp [hj]
  · rw [List.getElem?_eq_none (by simp; omega), List.getElem?_eq_none (by simp; omega)]
theorem ownV {w : World} {base g cap n k sz : Nat} {e : TypeId} {os : Array Obj} {cur L : Array Value} (hl : L.size = n * sz) (hbase : base ≤ g) (hb : w.heap[g]? = some (.cells cur e (0, 0)))
    (h1 : n ≤ cap) (h2 : cap ≤ maxLen) (h3 : cur.size = cap * sz) :
    (grow (putRow id (Sort.ahead w k) g 0 L) os).ownsRow base e sz (.slice (some ⟨g, 0, none⟩) n cap) n L.toList :=
  ⟨by simpa using hl, .inr ⟨g, cap, _, rfl, hbase, heapV _ _ hb, h1, h2, by simp [putCells, h3], by rw [← hl]; exact takeV cur L (by rw [hl, h3]; exact Nat.mul_le_mul_right _ h1)⟩⟩
instance : Inhabited Fld := ⟨zeroF⟩
theorem flat_flds (fs : List Fld) : (flatK Fld.cs 5 fs.toArray).toList = fs.flatMap Fld.cs := by
  apply List.ext_getElem?
  intro t
  by_cases ht : t < fs.length * 5
  · have h5 : t / 5 < fs.length := by omega
    rw [Array.getElem?_toList]
    have hs : t < (flatK Fld.cs 5 fs.toArray).size := by simpa using ht
    rw [Array.getElem?_eq_getElem hs, ← getElem!_pos _ t hs, get_flatK _ _ _ _ (by simpa using ht)]
    have he : fs.toArray[t / 5]! = fs[t / 5] := by rw [getElem!_pos _ _ (by simpa using h5)]; simp
    rw [he]
    have hm : t % 5 < (fs[t / 5]).cs.length := by rw [fld_len]; omega
    have := flatMap_at fld_len fs (t / 5) (t % 5) fs[t / 5] (List.getElem?_eq_getElem h5) (by omega)
    rw [show t / 5 * 5 + t % 5 = t by omega] at this
    rw [this, getElem!_pos (fs[t / 5]).cs (t % 5) hm, List.getElem?_eq_getElem hm]
  · have h1 : (fs.flatMap Fld.cs).length = fs.length * 5 := by
      clear ht
      induction fs with
      | nil => rfl
      | cons f fs ih => rw [List.flatMap_cons, List.length_append, ih, fld_len, List.length_cons]; omega
    rw [List.getElem?_eq_none (by simp; omega), List.getElem?_eq_none (by omega)]
def numC (f g : Fld) : Int := Lib.compareInt f.number g.number
theorem perm_list {fs : List Fld} {d' : Array Fld} (h : PermIn 0 fs.toArray.size fs.toArray d') : d'.toList.Perm fs := by
  have := h.2.2
  rw [← h.1] at this
  rw [Array.extract_size] at this
  rw [h.1, Array.extract_size] at this
  exact this
theorem numC_lt (f g : Fld) : ltOf numC f g = decide (f.number < g.number) := by
  unfold ltOf numC Lib.compareInt
  by_cases h1 : f.number < g.number
  · simp [h1]
  · by_cases h2 : f.number > g.number
    · simp [h1, h2]
    · simp [h1, h2]
theorem numC_swo : SWO (ltOf numC) where
  irrefl x := by simp [numC_lt]
  trans x y z h1 h2 := by simp only [numC_lt, decide_eq_true_eq] at *; omega
  ntrans x y z h1 h2 := by simp only [numC_lt, decide_eq_false_iff_not] at *; omega
theorem sorted_list {d' : Array Fld} (h : SortedIn (ltOf numC) 0 d'.size d') : d'.toList.Pairwise NumLe := by
  rw [List.pairwise_iff_getElem]
  intro i j hi hj hij
  have hi' : i < d'.size := by simpa using hi
  have hj' : j < d'.size := by simpa using hj
  have := h i j (Nat.zero_le _) hij hj'
  rw [numC_lt, getElem!_pos d' j hj', getElem!_pos d' i hi'] at this
  simp only [decide_eq_false_iff_not] at this
  simp only [Array.getElem_toList, NumLe]
  omega
end Go.Proofs.Ytbpilecgnfnndaa
namespace Go.Proofs.Ytbpilecgnfnndaa
set_option linter.unusedSimpArgs false
set_option linter.unusedVariables false
open Go.ChangeShapes Go.WideShapes Go.ChangeAt Go.RowKit Go.BigFrame
def fdAt (n : Int) : Nat → List Fld → Int
  | _, [] => -1
  | k, f :: fs => if f.number = n then k else fdAt n (k + 1) fs
theorem fdAt_yes {n : Int} {k : Nat} {xs : List Fld} {e : Fld} {R : Int} (h : fdAt n k (xs.drop k) = R) (he : xs[k]? = some e) (hi : e.number = n) : (k : Int) = R := by
  rw [drop_cons he, fdAt, if_pos hi] at h; exact h
theorem fdAt_no {n : Int} {k : Nat} {xs : List Fld} {e : Fld} {R : Int} (h : fdAt n k (xs.drop k) = R) (he : xs[k]? = some e) (hi : ¬ e.number = n) : fdAt n (k + 1) (xs.drop (k + 1)) = R := by
  rw [drop_cons he, fdAt, if_neg hi] at h; exact h
theorem fdAt_end {n : Int} {k : Nat} {xs : List Fld} {R : Int} (h : fdAt n k (xs.drop k) = R) (hk : xs.length ≤ k) : (-1 : Int) = R := by
  rw [List.drop_of_length_le hk] at h; exact h
theorem fdAt_has (n : Int) : ∀ (k : Nat) (xs : List Fld), decide ((0 : Int) ≤ fdAt n k xs) = hasNum xs n
  | k, [] => by simp [fdAt, hasNum]
  | k, f :: fs => by
    by_cases h : f.number = n
    · simp [fdAt, hasNum, h]
    · have := fdAt_has n (k + 1) fs
      simp only [hasNum] at this
      rw [fdAt, if_neg h, this]
      simp [hasNum, h]
theorem shAt_has (i : Int) : ∀ (k : Nat) (xs : List Shp), decide ((0 : Int) ≤ shAt i k xs) = hasId xs i
  | k, [] => by simp [shAt, hasId]
  | k, x :: xs => by
    by_cases h : x.id = i
    · simp [shAt, hasId, h]
    · have := shAt_has i (k + 1) xs
      simp only [hasId] at this
      rw [shAt, if_neg h, this]
      simp [hasId, h]
theorem shs_take {w : World} {a : Option Addr} {xs : List Shp} (h : Shs w a xs) (k : Nat) : Shs w a (xs.take k) := fun j x hx => h j x (by
  rw [List.getElem?_take] at hx
  split at hx
  · exact hx
  · simp at hx)
theorem pred_MsgCode (x : Int) (a : Option Addr) (m cap : Nat) (id : Int) (B : Nat) (w : World) (hB : B < w.heap.size) (hc : w.cell? ⟨B, 0, none⟩ = some (.int .i64 id)) :
    Calls Try.prog 90 #[.agg #[.int .i64 x, .slice a m cap], .pointer (some ⟨B, 0, none⟩)] w fun r w' => r = .returned (.bool (x == id)) ∧ Below w.heap.size w w' := by
  go_enter Try.func90, Try.ntmps90
  go_wp2
  go_ret
  exact ⟨rfl, by ((repeat (first | (with_reducible exact Below.refl _ _) | (with_reducible assumption) | (with_reducible refine Below.alloc ?_ ?_ _) | (with_reducible refine Below.setCell ?_ ?_ _) | (with_reducible refine Below.drew ?_) | (with_reducible refine below_setRow ?_ ?_ _) | (refine Below.trans ?_ (Below.mono (by assumption) ?_)))); all_goals (first | omega | (simp; done) | (simp; omega)))⟩
set_option maxHeartbeats 2000000 in
theorem index_MsgCode (a : Option Addr) (cap n : Nat) (xs : List Shp) (id : Int) (B : Nat) (w : World) (h : Shs w a xs) (hx : xs.length = n) (hn : n ≤ 1048576) (hB : B < w.heap.size) (hc : w.cell? ⟨B, 0, none⟩ = some (.int .i64 id)) :
    Calls Try.prog 34 #[.slice a n cap, .func (.func 90) #[] #[.pointer (some ⟨B, 0, none⟩)]] w fun r w' => r = .returned (.int .i64 (shAt id 0 xs)) ∧ Below w.heap.size w w' := by
  have HX := Lib.hid hx; clear hx
  obtain ⟨R, hR⟩ : ∃ R, shAt id 0 xs = R := ⟨_, rfl⟩
  rw [hR]
  have HR := Lib.hid hR; clear hR
  have HC := Lib.hid hc; clear hc
  go_enter Try.func34, Try.ntmps34
  go_wp2
  go_loopw [4, 8] (fun t i wr => ∃ k : Nat, k ≤ n ∧ i = .int .i64 k ∧ Hid (shAt id k (xs.drop k) = R) ∧ Below w.heap.size w wr) (fun _ i _ => n - (intOf i).toNat)
  case atStart => exact ⟨0, Nat.zero_le _, rfl, HR, Below.refl _ _⟩
  case round =>
    obtain ⟨k, hk, rfl, HV, hb⟩ := hrel
    have hz := hb.size
    have HC1 := Lib.hid ((hb.cell (p := ⟨B, 0, none⟩) hB).trans HC.out)
    by_cases hlt : k < n
    · obtain ⟨e, he, _⟩ := at_lt (xs := xs) (k := k) (by rw [HX.out]; exact hlt)
      have HE := Lib.hid he
      obtain ⟨b, off, a1, cap1, rfl, hlb, c0, c1, -⟩ := h.below hb (Nat.le_refl _) k e he
      clear he
      by_cases hi : e.id = id
      · have H := Lib.hid (shAt_yes HV.out HE.out hi)
        have hi' : (e.id == id) = true := by simp [hi]
        clear hi
        go_wp2_with (first | (go_at_call 90; refine (pred_MsgCode _ _ _ _ id B _ (by omega) HC1.out).mono ?_; rintro r w2 ⟨rfl, hb2⟩; obtain ⟨hc2, hf2⟩ := bcell hb2; have hz2 := hb2.size; (try simp only [World.size_alloc, World.size_setCell, World.size_drew] at hz2)))
        go_ret
        exact ⟨ret_int H.out, by ((repeat (first | (with_reducible exact Below.refl _ _) | (with_reducible assumption) | (with_reducible refine Below.alloc ?_ ?_ _) | (with_reducible refine Below.setCell ?_ ?_ _) | (with_reducible refine Below.drew ?_) | (with_reducible refine below_setRow ?_ ?_ _) | (refine Below.trans ?_ (Below.mono (by assumption) ?_)))); all_goals (first | omega | (simp; done) | (simp; omega)))⟩
      · have hi' : (e.id == id) = false := by simp [hi]
        have H := Lib.hid (shAt_no HV.out HE.out hi)
        clear hi
        go_wp2_with (first | (go_at_call 90; refine (pred_MsgCode _ _ _ _ id B _ (by omega) HC1.out).mono ?_; rintro r w2 ⟨rfl, hb2⟩; obtain ⟨hc2, hf2⟩ := bcell hb2; have hz2 := hb2.size; (try simp only [World.size_alloc, World.size_setCell, World.size_drew] at hz2)))
        go_roundw
        case rel => exact ⟨k + 1, by omega, by go_num, H, by ((repeat (first | (with_reducible exact Below.refl _ _) | (with_reducible assumption) | (with_reducible refine Below.alloc ?_ ?_ _) | (with_reducible refine Below.setCell ?_ ?_ _) | (with_reducible refine Below.drew ?_) | (with_reducible refine below_setRow ?_ ?_ _) | (refine Below.trans ?_ (Below.mono (by assumption) ?_)))); all_goals (first | omega | (simp; done) | (simp; omega)))⟩
        case measure => simp [intOf]; omega
    · have H := Lib.hid (shAt_end HV.out (by rw [HX.out]; omega))
      go_wp2
      go_ret
      exact ⟨ret_int H.out, hb⟩
theorem hasM_MsgCode (a : Option Addr) (cap n : Nat) (xs : List Shp) (id : Int) (B : Nat) (w : World) (h : Shs w a xs) (hx : xs.length = n) (hn : n ≤ 1048576) (hB : B < w.heap.size) (hc : w.cell? ⟨B, 0, none⟩ = some (.int .i64 id)) :
    Calls Try.prog 89 #[.slice a n cap, .func (.func 90) #[] #[.pointer (some ⟨B, 0, none⟩)]] w fun r w' => r = .returned (.bool (hasId xs id)) ∧ Below w.heap.size w w' := by
  rw [← shAt_has id 0 xs]
  go_enter Try.func89, Try.ntmps89
  go_wp2_with (first | (go_at_call 34; refine (index_MsgCode _ _ _ xs id B _ h hx hn hB hc).mono ?_; rintro r w1 ⟨rfl, hb1⟩; obtain ⟨hc1, hf1⟩ := bcell hb1; have hz1 := hb1.size; (try simp only [World.size_alloc, World.size_setCell, World.size_drew] at hz1)))
  go_ret
  exact ⟨rfl, by ((repeat (first | (with_reducible exact Below.refl _ _) | (with_reducible assumption) | (with_reducible refine Below.alloc ?_ ?_ _) | (with_reducible refine Below.setCell ?_ ?_ _) | (with_reducible refine Below.drew ?_) | (with_reducible refine below_setRow ?_ ?_ _) | (refine Below.trans ?_ (Below.mono (by assumption) ?_)))); all_goals (first | omega | (simp; done) | (simp; omega)))⟩
theorem pred_hasMsg (x : Int) (a : Option Addr) (m cap : Nat) (id : Int) (B : Nat) (w : World) (hB : B < w.heap.size) (hc : w.cell? ⟨B, 0, none⟩ = some (.int .i64 id)) :
    Calls Try.prog 118 #[.agg #[.int .i64 x, .slice a m cap], .pointer (some ⟨B, 0, none⟩)] w fun r w' => r = .returned (.bool (x == id)) ∧ Below w.heap.size w w' := by
  go_enter Try.func118, Try.ntmps118
  go_wp2
  go_ret
  exact ⟨rfl, by ((repeat (first | (with_reducible exact Below.refl _ _) | (with_reducible assumption) | (with_reducible refine Below.alloc ?_ ?_ _) | (with_reducible refine Below.setCell ?_ ?_ _) | (with_reducible refine Below.drew ?_) | (with_reducible refine below_setRow ?_ ?_ _) | (refine Below.trans ?_ (Below.mono (by assumption) ?_)))); all_goals (first | omega | (simp; done) | (simp; omega)))⟩
set_option maxHeartbeats 2000000 in
theorem index_hasMsg (a : Option Addr) (cap n : Nat) (xs : List Shp) (id : Int) (B : Nat) (w : World) (h : Shs w a xs) (hx : xs.length = n) (hn : n ≤ 1048576) (hB : B < w.heap.size) (hc : w.cell? ⟨B, 0, none⟩ = some (.int .i64 id)) :
    Calls Try.prog 34 #[.slice a n cap, .func (.func 118) #[] #[.pointer (some ⟨B, 0, none⟩)]] w fun r w' => r = .returned (.int .i64 (shAt id 0 xs)) ∧ Below w.heap.size w w' := by
  have HX := Lib.hid hx; clear hx
  obtain ⟨R, hR⟩ : ∃ R, shAt id 0 xs = R := ⟨_, rfl⟩
  rw [hR]
  have HR := Lib.hid hR; clear hR
  have HC := Lib.hid hc; clear hc
  go_enter Try.func34, Try.ntmps34
  go_wp2
  go_loopw [4, 8] (fun t i wr => ∃ k : Nat, k ≤ n ∧ i = .int .i64 k ∧ Hid (shAt id k (xs.drop k) = R) ∧ Below w.heap.size w wr) (fun _ i _ => n - (intOf i).toNat)
  case atStart => exact ⟨0, Nat.zero_le _, rfl, HR, Below.refl _ _⟩
  case round =>
    obtain ⟨k, hk, rfl, HV, hb⟩ := hrel
    have hz := hb.size
    have HC1 := Lib.hid ((hb.cell (p := ⟨B, 0, none⟩) hB).trans HC.out)
    by_cases hlt : k < n
    · obtain ⟨e, he, _⟩ := at_lt (xs := xs) (k := k) (by rw [HX.out]; exact hlt)
      have HE := Lib.hid he
      obtain ⟨b, off, a1, cap1, rfl, hlb, c0, c1, -⟩ := h.below hb (Nat.le_refl _) k e he
      clear he
      by_cases hi : e.id = id
      · have H := Lib.hid (shAt_yes HV.out HE.out hi)
        have hi' : (e.id == id) = true := by simp [hi]
        clear hi
        go_wp2_with (first | (go_at_call 118; refine (pred_hasMsg _ _ _ _ id B _ (by omega) HC1.out).mono ?_; rintro r w2 ⟨rfl, hb2⟩; obtain ⟨hc2, hf2⟩ := bcell hb2; have hz2 := hb2.size; (try simp only [World.size_alloc, World.size_setCell, World.size_drew] at hz2)))
        go_ret
        exact ⟨ret_int H.out, by ((repeat (first | (with_reducible exact Below.refl _ _) | (with_reducible assumption) | (with_reducible refine Below.alloc ?_ ?_ _) | (with_reducible refine Below.setCell ?_ ?_ _) | (with_reducible refine Below.drew ?_) | (with_reducible refine below_setRow ?_ ?_ _) | (refine Below.trans ?_ (Below.mono (by assumption) ?_)))); all_goals (first | omega | (simp; done) | (simp; omega)))⟩
      · have hi' : (e.id == id) = false := by simp [hi]
        have H := Lib.hid (shAt_no HV.out HE.out hi)
        clear hi
        go_wp2_with (first | (go_at_call 118; refine (pred_hasMsg _ _ _ _ id B _ (by omega) HC1.out).mono ?_; rintro r w2 ⟨rfl, hb2⟩; obtain ⟨hc2, hf2⟩ := bcell hb2; have hz2 := hb2.size; (try simp only [World.size_alloc, World.size_setCell, World.size_drew] at hz2)))
        go_roundw
        case rel => exact ⟨k + 1, by omega, by go_num, H, by ((repeat (first | (with_reducible exact Below.refl _ _) | (with_reducible assumption) | (with_reducible refine Below.alloc ?_ ?_ _) | (with_reducible refine Below.setCell ?_ ?_ _) | (with_reducible refine Below.drew ?_) | (with_reducible refine below_setRow ?_ ?_ _) | (refine Below.trans ?_ (Below.mono (by assumption) ?_)))); all_goals (first | omega | (simp; done) | (simp; omega)))⟩
        case measure => simp [intOf]; omega
    · have H := Lib.hid (shAt_end HV.out (by rw [HX.out]; omega))
      go_wp2
      go_ret
      exact ⟨ret_int H.out, hb⟩
theorem hasM_hasMsg (a : Option Addr) (cap n : Nat) (xs : List Shp) (id : Int) (B : Nat) (w : World) (h : Shs w a xs) (hx : xs.length = n) (hn : n ≤ 1048576) (hB : B < w.heap.size) (hc : w.cell? ⟨B, 0, none⟩ = some (.int .i64 id)) :
    Calls Try.prog 89 #[.slice a n cap, .func (.func 118) #[] #[.pointer (some ⟨B, 0, none⟩)]] w fun r w' => r = .returned (.bool (hasId xs id)) ∧ Below w.heap.size w w' := by
  rw [← shAt_has id 0 xs]
  go_enter Try.func89, Try.ntmps89
  go_wp2_with (first | (go_at_call 34; refine (index_hasMsg _ _ _ xs id B _ h hx hn hB hc).mono ?_; rintro r w1 ⟨rfl, hb1⟩; obtain ⟨hc1, hf1⟩ := bcell hb1; have hz1 := hb1.size; (try simp only [World.size_alloc, World.size_setCell, World.size_drew] at hz1)))
  go_ret
  exact ⟨rfl, by ((repeat (first | (with_reducible exact Below.refl _ _) | (with_reducible assumption) | (with_reducible refine Below.alloc ?_ ?_ _) | (with_reducible refine Below.setCell ?_ ?_ _) | (with_reducible refine Below.drew ?_) | (with_reducible refine below_setRow ?_ ?_ _) | (refine Below.trans ?_ (Below.mono (by assumption) ?_)))); all_goals (first | omega | (simp; done) | (simp; omega)))⟩
theorem pred_Compile (x : Int) (a : Option Addr) (m cap : Nat) (id : Int) (B : Nat) (w : World) (hB : B < w.heap.size) (hc : w.cell? ⟨B, 0, none⟩ = some (.int .i64 id)) :
    Calls Try.prog 35 #[.agg #[.int .i64 x, .slice a m cap], .pointer (some ⟨B, 0, none⟩)] w fun r w' => r = .returned (.bool (x == id)) ∧ Below w.heap.size w w' := by
  go_enter Try.func35, Try.ntmps35
  go_wp2
  go_ret
  exact ⟨rfl, by ((repeat (first | (with_reducible exact Below.refl _ _) | (with_reducible assumption) | (with_reducible refine Below.alloc ?_ ?_ _) | (with_reducible refine Below.setCell ?_ ?_ _) | (with_reducible refine Below.drew ?_) | (with_reducible refine below_setRow ?_ ?_ _) | (refine Below.trans ?_ (Below.mono (by assumption) ?_)))); all_goals (first | omega | (simp; done) | (simp; omega)))⟩
set_option maxHeartbeats 2000000 in
theorem index_Compile (a : Option Addr) (cap n : Nat) (xs : List Shp) (id : Int) (B : Nat) (w : World) (h : Shs w a xs) (hx : xs.length = n) (hn : n ≤ 1048576) (hB : B < w.heap.size) (hc : w.cell? ⟨B, 0, none⟩ = some (.int .i64 id)) :
    Calls Try.prog 34 #[.slice a n cap, .func (.func 35) #[] #[.pointer (some ⟨B, 0, none⟩)]] w fun r w' => r = .returned (.int .i64 (shAt id 0 xs)) ∧ Below w.heap.size w w' := by
  have HX := Lib.hid hx; clear hx
  obtain ⟨R, hR⟩ : ∃ R, shAt id 0 xs = R := ⟨_, rfl⟩
  rw [hR]
  have HR := Lib.hid hR; clear hR
  have HC := Lib.hid hc; clear hc
  go_enter Try.func34, Try.ntmps34
  go_wp2
  go_loopw [4, 8] (fun t i wr => ∃ k : Nat, k ≤ n ∧ i = .int .i64 k ∧ Hid (shAt id k (xs.drop k) = R) ∧ Below w.heap.size w wr) (fun _ i _ => n - (intOf i).toNat)
  case atStart => exact ⟨0, Nat.zero_le _, rfl, HR, Below.refl _ _⟩
  case round =>
    obtain ⟨k, hk, rfl, HV, hb⟩ := hrel
    have hz := hb.size
    have HC1 := Lib.hid ((hb.cell (p := ⟨B, 0, none⟩) hB).trans HC.out)
    by_cases hlt : k < n
    · obtain ⟨e, he, _⟩ := at_lt (xs := xs) (k := k) (by rw [HX.out]; exact hlt)
      have HE := Lib.hid he
      obtain ⟨b, off, a1, cap1, rfl, hlb, c0, c1, -⟩ := h.below hb (Nat.le_refl _) k e he
      clear he
      by_cases hi : e.id = id
      · have H := Lib.hid (shAt_yes HV.out HE.out hi)
        have hi' : (e.id == id) = true := by simp [hi]
        clear hi
        go_wp2_with (first | (go_at_call 35; refine (pred_Compile _ _ _ _ id B _ (by omega) HC1.out).mono ?_; rintro r w2 ⟨rfl, hb2⟩; obtain ⟨hc2, hf2⟩ := bcell hb2; have hz2 := hb2.size; (try simp only [World.size_alloc, World.size_setCell, World.size_drew] at hz2)))
        go_ret
        exact ⟨ret_int H.out, by ((repeat (first | (with_reducible exact Below.refl _ _) | (with_reducible assumption) | (with_reducible refine Below.alloc ?_ ?_ _) | (with_reducible refine Below.setCell ?_ ?_ _) | (with_reducible refine Below.drew ?_) | (with_reducible refine below_setRow ?_ ?_ _) | (refine Below.trans ?_ (Below.mono (by assumption) ?_)))); all_goals (first | omega | (simp; done) | (simp; omega)))⟩
      · have hi' : (e.id == id) = false := by simp [hi]
        have H := Lib.hid (shAt_no HV.out HE.out hi)
        clear hi
        go_wp2_with (first | (go_at_call 35; refine (pred_Compile _ _ _ _ id B _ (by omega) HC1.out).mono ?_; rintro r w2 ⟨rfl, hb2⟩; obtain ⟨hc2, hf2⟩ := bcell hb2; have hz2 := hb2.size; (try simp only [World.size_alloc, World.size_setCell, World.size_drew] at hz2)))
        go_roundw
        case rel => exact ⟨k + 1, by omega, by go_num, H, by ((repeat (first | (with_reducible exact Below.refl _ _) | (with_reducible assumption) | (with_reducible refine Below.alloc ?_ ?_ _) | (with_reducible refine Below.setCell ?_ ?_ _) | (with_reducible refine Below.drew ?_) | (with_reducible refine below_setRow ?_ ?_ _) | (refine Below.trans ?_ (Below.mono (by assumption) ?_)))); all_goals (first | omega | (simp; done) | (simp; omega)))⟩
        case measure => simp [intOf]; omega
    · have H := Lib.hid (shAt_end HV.out (by rw [HX.out]; omega))
      go_wp2
      go_ret
      exact ⟨ret_int H.out, hb⟩
theorem pred_FieldCode (e : Fld) (id : Int) (B : Nat) (w : World) (hB : B < w.heap.size) (hc : w.cell? ⟨B, 0, none⟩ = some (.int .i64 id)) :
    Calls Try.prog 92 #[e.val, .pointer (some ⟨B, 0, none⟩)] w fun r w' => r = .returned (.bool (e.number == id)) ∧ Below w.heap.size w w' := by
  go_enter Try.func92, Try.ntmps92
  go_wp2
  go_ret
  exact ⟨rfl, by ((repeat (first | (with_reducible exact Below.refl _ _) | (with_reducible assumption) | (with_reducible refine Below.alloc ?_ ?_ _) | (with_reducible refine Below.setCell ?_ ?_ _) | (with_reducible refine Below.drew ?_) | (with_reducible refine below_setRow ?_ ?_ _) | (refine Below.trans ?_ (Below.mono (by assumption) ?_)))); all_goals (first | omega | (simp; done) | (simp; omega)))⟩
set_option maxHeartbeats 2000000 in
theorem index_FieldCode (a : Option Addr) (cap n : Nat) (xs : List Fld) (id : Int) (B : Nat) (w : World) (h : Flds w a xs) (hx : xs.length = n) (hn : n ≤ 1048576) (hB : B < w.heap.size) (hc : w.cell? ⟨B, 0, none⟩ = some (.int .i64 id)) :
    Calls Try.prog 117 #[.slice a n cap, .func (.func 92) #[] #[.pointer (some ⟨B, 0, none⟩)]] w fun r w' => r = .returned (.int .i64 (fdAt id 0 xs)) ∧ Below w.heap.size w w' := by
  have HX := Lib.hid hx; clear hx
  obtain ⟨R, hR⟩ : ∃ R, fdAt id 0 xs = R := ⟨_, rfl⟩
  rw [hR]
  have HR := Lib.hid hR; clear hR
  have HC := Lib.hid hc; clear hc
  go_enter Try.func117, Try.ntmps117
  go_wp2
  go_loopw [4, 8] (fun t i wr => ∃ k : Nat, k ≤ n ∧ i = .int .i64 k ∧ Hid (fdAt id k (xs.drop k) = R) ∧ Below w.heap.size w wr) (fun _ i _ => n - (intOf i).toNat)
  case atStart => exact ⟨0, Nat.zero_le _, rfl, HR, Below.refl _ _⟩
  case round =>
    obtain ⟨k, hk, rfl, HV, hb⟩ := hrel
    have hz := hb.size
    have HC1 := Lib.hid ((hb.cell (p := ⟨B, 0, none⟩) hB).trans HC.out)
    by_cases hlt : k < n
    · obtain ⟨e, he, _⟩ := at_lt (xs := xs) (k := k) (by rw [HX.out]; exact hlt)
      have HE := Lib.hid he
      obtain ⟨b, off, rfl, hlb, c0, c1, c2, c3, c4⟩ := Flds.at (Sl.keep h hb) he
      clear he
      by_cases hi : e.number = id
      · have H := Lib.hid (fdAt_yes HV.out HE.out hi)
        have hi' : (e.number == id) = true := by simp [hi]
        clear hi
        go_wp2_with (first | (go_at_call 92; refine (pred_FieldCode ⟨e.number, e.kind, e.rep, e.packed, e.msg⟩ id B _ (by omega) HC1.out).mono ?_; rintro r w2 ⟨rfl, hb2⟩; obtain ⟨hc2, hf2⟩ := bcell hb2; have hz2 := hb2.size; (try simp only [World.size_alloc, World.size_setCell, World.size_drew] at hz2)))
        go_ret
        exact ⟨ret_int H.out, by ((repeat (first | (with_reducible exact Below.refl _ _) | (with_reducible assumption) | (with_reducible refine Below.alloc ?_ ?_ _) | (with_reducible refine Below.setCell ?_ ?_ _) | (with_reducible refine Below.drew ?_) | (with_reducible refine below_setRow ?_ ?_ _) | (refine Below.trans ?_ (Below.mono (by assumption) ?_)))); all_goals (first | omega | (simp; done) | (simp; omega)))⟩
      · have hi' : (e.number == id) = false := by simp [hi]
        have H := Lib.hid (fdAt_no HV.out HE.out hi)
        clear hi
        go_wp2_with (first | (go_at_call 92; refine (pred_FieldCode ⟨e.number, e.kind, e.rep, e.packed, e.msg⟩ id B _ (by omega) HC1.out).mono ?_; rintro r w2 ⟨rfl, hb2⟩; obtain ⟨hc2, hf2⟩ := bcell hb2; have hz2 := hb2.size; (try simp only [World.size_alloc, World.size_setCell, World.size_drew] at hz2)))
        go_roundw
        case rel => exact ⟨k + 1, by omega, by go_num, H, by ((repeat (first | (with_reducible exact Below.refl _ _) | (with_reducible assumption) | (with_reducible refine Below.alloc ?_ ?_ _) | (with_reducible refine Below.setCell ?_ ?_ _) | (with_reducible refine Below.drew ?_) | (with_reducible refine below_setRow ?_ ?_ _) | (refine Below.trans ?_ (Below.mono (by assumption) ?_)))); all_goals (first | omega | (simp; done) | (simp; omega)))⟩
        case measure => simp [intOf]; omega
    · have H := Lib.hid (fdAt_end HV.out (by rw [HX.out]; omega))
      go_wp2
      go_ret
      exact ⟨ret_int H.out, hb⟩
theorem hasF_FieldCode (a : Option Addr) (cap n : Nat) (xs : List Fld) (id : Int) (B : Nat) (w : World) (h : Flds w a xs) (hx : xs.length = n) (hn : n ≤ 1048576) (hB : B < w.heap.size) (hc : w.cell? ⟨B, 0, none⟩ = some (.int .i64 id)) :
    Calls Try.prog 91 #[.slice a n cap, .func (.func 92) #[] #[.pointer (some ⟨B, 0, none⟩)]] w fun r w' => r = .returned (.bool (hasNum xs id)) ∧ Below w.heap.size w w' := by
  rw [← fdAt_has id 0 xs]
  go_enter Try.func91, Try.ntmps91
  go_wp2_with (first | (go_at_call 117; refine (index_FieldCode _ _ _ xs id B _ h hx hn hB hc).mono ?_; rintro r w1 ⟨rfl, hb1⟩; obtain ⟨hc1, hf1⟩ := bcell hb1; have hz1 := hb1.size; (try simp only [World.size_alloc, World.size_setCell, World.size_drew] at hz1)))
  go_ret
  exact ⟨rfl, by ((repeat (first | (with_reducible exact Below.refl _ _) | (with_reducible assumption) | (with_reducible refine Below.alloc ?_ ?_ _) | (with_reducible refine Below.setCell ?_ ?_ _) | (with_reducible refine Below.drew ?_) | (with_reducible refine below_setRow ?_ ?_ _) | (refine Below.trans ?_ (Below.mono (by assumption) ?_)))); all_goals (first | omega | (simp; done) | (simp; omega)))⟩
set_option maxHeartbeats 4000000 in
theorem implMsgCode_any (a : Option Addr) (cap n i : Nat) (xs : List Shp) (x : Shp) (w : World) (h : ShsL w a xs) (hl : xs.length = n) (hn : n ≤ 1048576) (hcap : n ≤ cap) (hx : xs[i]? = some x) (hi : i < n) (hf : x.flds.length ≤ 1048576) :
    Calls Try.prog 66 #[.agg #[.slice a n cap], .int .i64 i] w fun r w' => r = .returned (.int .i64 (msgC xs i x)) ∧ Below w.heap.size w w' := by
  have HL := Lib.hid hl; clear hl
  obtain ⟨R, hR⟩ : ∃ R, msgC xs i x = R := ⟨_, rfl⟩
  rw [hR]
  have HR := Lib.hid hR; clear hR
  obtain ⟨b, off, a', cap', rfl, hbl, c0, c1, -, -⟩ := h i x hx
  have HX := Lib.hid hx; clear hx
  have hb1 : inB (i : Int) 0 ((n : Int) - 1) = true := by simp only [inB, decide_eq_true_eq]; omega
  have hii : (i : Int) < (n : Int) := by omega
  have hi0 : (0 : Int) ≤ (i : Int) := by omega
  have hic : (i : Int) ≤ (cap : Int) := by omega
  have HTl := Lib.hid (show (xs.take i).length = i by rw [List.length_take, HL.out]; omega)
  have HH := Lib.hid (shs_take h.shs i); clear h
  go_enter Try.func66, Try.ntmps66
  cases h1 : inB x.id 1 99
  · have HB := Lib.hid (show (2 : Int) = R by rw [← HR.out, msgC, if_pos h1])
    go_wp2_with (first | (go_at_call 47; refine (within_any _ _ _ _).mono ?_; rintro r w1 ⟨rfl, rfl⟩))
    go_ret
    exact ⟨ret_int HB.out, by ((repeat (first | (with_reducible exact Below.refl _ _) | (with_reducible assumption) | (with_reducible refine Below.alloc ?_ ?_ _) | (with_reducible refine Below.setCell ?_ ?_ _) | (with_reducible refine Below.drew ?_) | (with_reducible refine below_setRow ?_ ?_ _) | (refine Below.trans ?_ (Below.mono (by assumption) ?_)))); all_goals (first | omega | (simp; done) | (simp; omega)))⟩
  · go_wp2_with (first | (go_at_call 47; refine (within_any _ _ _ _).mono ?_; rintro r w1 ⟨rfl, rfl⟩))
    refine (hasM_MsgCode (some ⟨b, off, none⟩) cap i (xs.take i) x.id _ _ (HH.out.keep (by ((repeat (first | (with_reducible exact Below.refl _ _) | (with_reducible assumption) | (with_reducible refine Below.alloc ?_ ?_ _) | (with_reducible refine Below.setCell ?_ ?_ _) | (with_reducible refine Below.drew ?_) | (with_reducible refine below_setRow ?_ ?_ _) | (refine Below.trans ?_ (Below.mono (by assumption) ?_)))); all_goals (first | omega | (simp; done) | (simp; omega))))) HTl.out (by omega) (by simp) (by simp [go_sem])).mono ?_
    rintro r w2 ⟨rfl, hb2⟩
    have hM := (hb2.block (w.heap.size + 1) (by simp)).trans (hset_new (o := .cells #[.int .i64 x.id, .slice a' x.flds.length cap'] 40) (by simp))
    have kM := box_cells hM
    have hbw : Below w.heap.size w w2 := by ((repeat (first | (with_reducible exact Below.refl _ _) | (with_reducible assumption) | (with_reducible refine Below.alloc ?_ ?_ _) | (with_reducible refine Below.setCell ?_ ?_ _) | (with_reducible refine Below.drew ?_) | (with_reducible refine below_setRow ?_ ?_ _) | (refine Below.trans ?_ (Below.mono (by assumption) ?_)))); all_goals (first | omega | (simp; done) | (simp; omega)))
    clear hb2 hM
    cases h2 : hasId (xs.take i) x.id
    · by_cases h8 : 8 < x.flds.length
      · have HB := Lib.hid (show (4 : Int) = R by rw [← HR.out, msgC, if_neg (by rw [h1]; simp), if_neg (by rw [h2]; simp), if_pos h8])
        have h8' : (8 : Int) < (x.flds.length : Int) := by omega
        go_wp2
        go_ret
        exact ⟨ret_int HB.out, by ((repeat (first | (with_reducible exact Below.refl _ _) | (with_reducible assumption) | (with_reducible refine Below.alloc ?_ ?_ _) | (with_reducible refine Below.setCell ?_ ?_ _) | (with_reducible refine Below.drew ?_) | (with_reducible refine below_setRow ?_ ?_ _) | (refine Below.trans ?_ (Below.mono (by assumption) ?_)))); all_goals (first | omega | (simp; done) | (simp; omega)))⟩
      · have HB := Lib.hid (show (0 : Int) = R by rw [← HR.out, msgC, if_neg (by rw [h1]; simp), if_neg (by rw [h2]; simp), if_neg h8])
        have h8' : decide ((8 : Int) < (x.flds.length : Int)) = false := decide_eq_false (by omega)
        go_wp2
        go_ret
        exact ⟨ret_int HB.out, by ((repeat (first | (with_reducible exact Below.refl _ _) | (with_reducible assumption) | (with_reducible refine Below.alloc ?_ ?_ _) | (with_reducible refine Below.setCell ?_ ?_ _) | (with_reducible refine Below.drew ?_) | (with_reducible refine below_setRow ?_ ?_ _) | (refine Below.trans ?_ (Below.mono (by assumption) ?_)))); all_goals (first | omega | (simp; done) | (simp; omega)))⟩
    · have HB := Lib.hid (show (3 : Int) = R by rw [← HR.out, msgC, if_neg (by rw [h1]; simp), if_pos h2])
      go_wp2
      go_ret
      exact ⟨ret_int HB.out, by ((repeat (first | (with_reducible exact Below.refl _ _) | (with_reducible assumption) | (with_reducible refine Below.alloc ?_ ?_ _) | (with_reducible refine Below.setCell ?_ ?_ _) | (with_reducible refine Below.drew ?_) | (with_reducible refine below_setRow ?_ ?_ _) | (refine Below.trans ?_ (Below.mono (by assumption) ?_)))); all_goals (first | omega | (simp; done) | (simp; omega)))⟩
theorem implHasMsg_any (a : Option Addr) (cap n : Nat) (xs : List Shp) (id : Int) (w : World) (h : Shs w a xs) (hx : xs.length = n) (hn : n ≤ 1048576) :
    Calls Try.prog 93 #[.agg #[.slice a n cap], .int .i64 id] w fun r w' => r = .returned (.bool (hasId xs id)) ∧ Below w.heap.size w w' := by
  have HX := Lib.hid hx; clear hx
  have HS := Lib.hid h; clear h
  go_enter Try.func93, Try.ntmps93
  go_wp2_with (first | (go_at_call 89; refine (hasM_hasMsg _ _ _ xs id _ _ (HS.out.keep (by ((repeat (first | (with_reducible exact Below.refl _ _) | (with_reducible assumption) | (with_reducible refine Below.alloc ?_ ?_ _) | (with_reducible refine Below.setCell ?_ ?_ _) | (with_reducible refine Below.drew ?_) | (with_reducible refine below_setRow ?_ ?_ _) | (refine Below.trans ?_ (Below.mono (by assumption) ?_)))); all_goals (first | omega | (simp; done) | (simp; omega))))) HX.out hn (by simp) (by simp [go_sem])).mono ?_; rintro r w1 ⟨rfl, hb1⟩; obtain ⟨hc1, hf1⟩ := bcell hb1; have hz1 := hb1.size; (try simp only [World.size_alloc, World.size_setCell, World.size_drew] at hz1)))
  go_ret
  exact ⟨rfl, by ((repeat (first | (with_reducible exact Below.refl _ _) | (with_reducible assumption) | (with_reducible refine Below.alloc ?_ ?_ _) | (with_reducible refine Below.setCell ?_ ?_ _) | (with_reducible refine Below.drew ?_) | (with_reducible refine below_setRow ?_ ?_ _) | (refine Below.trans ?_ (Below.mono (by assumption) ?_)))); all_goals (first | omega | (simp; done) | (simp; omega)))⟩
set_option maxRecDepth 100000 in
set_option maxHeartbeats 4000000 in
theorem implFieldCode_any (a : Option Addr) (cap n i k : Nat) (xs : List Shp) (x : Shp) (f : Fld) (w : World) (h : ShsL w a xs) (hl : xs.length = n) (hn : n ≤ 1048576) (hx : xs[i]? = some x) (hi : i < n) (hfl : x.flds.length ≤ 1048576) (hf : x.flds[k]? = some f) (hk : k < x.flds.length) :
    Calls Try.prog 67 #[.agg #[.slice a n cap], .int .i64 i, .int .i64 k] w fun r w' => r = .returned (.int .i64 (fldC xs x.flds k f)) ∧ Below w.heap.size w w' := by
  have HL := Lib.hid hl; clear hl
  obtain ⟨R, hR⟩ : ∃ R, fldC xs x.flds k f = R := ⟨_, rfl⟩
  rw [hR]
  have HR := Lib.hid hR; clear hR
  obtain ⟨b, off, a', cap', rfl, hbl, c0, c1, hfs, hcp⟩ := h i x hx
  obtain ⟨b2, off2, rfl, hbl2, d0, d1, d2, d3, d4⟩ := Flds.at hfs hf
  have HX := Lib.hid hx; clear hx
  have HF := Lib.hid hf; clear hf
  have HFS := Lib.hid hfs; clear hfs
  have hb1 : inB (i : Int) 0 ((n : Int) - 1) = true := by simp only [inB, decide_eq_true_eq]; omega
  have hb2' : inB (k : Int) 0 ((x.flds.length : Int) - 1) = true := by simp only [inB, decide_eq_true_eq]; omega
  have hii : (i : Int) < (n : Int) := by omega
  have hki : (k : Int) < (x.flds.length : Int) := by omega
  have hkc : (k : Int) ≤ (cap' : Int) := by omega
  have hk0 : (0 : Int) ≤ (k : Int) := by omega
  have HH := Lib.hid h.shs; clear h
  go_enter Try.func67, Try.ntmps67
  cases h1 : numOk f.number
  · have HB := Lib.hid (show (5 : Int) = R by rw [← HR.out, fldC, if_pos h1])
    go_wp2_with (first | (go_at_call 47; refine (within_any _ _ _ _).mono ?_; rintro r w1 ⟨rfl, rfl⟩) | (go_at_call 77; refine (implNumberOk_any _ _).mono ?_; rintro r w1 ⟨rfl, rfl⟩))
    go_ret
    exact ⟨ret_int HB.out, by ((repeat (first | (with_reducible exact Below.refl _ _) | (with_reducible assumption) | (with_reducible refine Below.alloc ?_ ?_ _) | (with_reducible refine Below.setCell ?_ ?_ _) | (with_reducible refine Below.drew ?_) | (with_reducible refine below_setRow ?_ ?_ _) | (refine Below.trans ?_ (Below.mono (by assumption) ?_)))); all_goals (first | omega | (simp; done) | (simp; omega)))⟩
  · go_wp2_with (first | (go_at_call 47; refine (within_any _ _ _ _).mono ?_; rintro r w1 ⟨rfl, rfl⟩) | (go_at_call 77; refine (implNumberOk_any _ _).mono ?_; rintro r w1 ⟨rfl, rfl⟩))
    have HKl := Lib.hid (show (x.flds.take k).length = k by rw [List.length_take]; omega)
    refine (hasF_FieldCode (some ⟨b2, off2, none⟩) cap' k (x.flds.take k) f.number _ _ (Sl.keep (flds_take HFS.out k) (by ((repeat (first | (with_reducible exact Below.refl _ _) | (with_reducible assumption) | (with_reducible refine Below.alloc ?_ ?_ _) | (with_reducible refine Below.setCell ?_ ?_ _) | (with_reducible refine Below.drew ?_) | (with_reducible refine below_setRow ?_ ?_ _) | (refine Below.trans ?_ (Below.mono (by assumption) ?_)))); all_goals (first | omega | (simp; done) | (simp; omega))))) HKl.out (by omega) (by simp) (by simp [go_sem])).mono ?_
    rintro r w2 ⟨rfl, hb2⟩
    have hA_ := (hb2.block w.heap.size (by simp; omega)).trans (hset_alloc (hset_new (o := .cells #[.slice (some ⟨b, off, none⟩) n cap] 26) rfl))
    have hG_ := (hb2.block (w.heap.size + 1) (by simp)).trans (hset_new (o := .cells #[.int .i64 f.number, .int .i64 f.kind, .bool f.rep, .bool f.packed, .int .i64 f.msg] 45) (by simp))
    have kA := box_cells hA_; have kG := box_cells hG_; have hlG := box_lt hG_; have hlA := box_lt hA_; have HGx := Lib.hid hG_
    have hbw : Below w.heap.size w w2 := by ((repeat (first | (with_reducible exact Below.refl _ _) | (with_reducible assumption) | (with_reducible refine Below.alloc ?_ ?_ _) | (with_reducible refine Below.setCell ?_ ?_ _) | (with_reducible refine Below.drew ?_) | (with_reducible refine below_setRow ?_ ?_ _) | (refine Below.trans ?_ (Below.mono (by assumption) ?_)))); all_goals (first | omega | (simp; done) | (simp; omega)))
    clear hb2 hA_ hG_
    cases h2 : hasNum (x.flds.take k) f.number
    · cases h3 : inB f.kind 1 8
      · have HB := Lib.hid (show (7 : Int) = R by rw [← HR.out, fldC, if_neg (by rw [h1]; simp), if_neg (by rw [h2]; simp), if_pos h3])
        go_wp2_with (first | (go_at_call 78; refine (isKind_any _ _).mono ?_; rintro r w1 ⟨rfl, rfl⟩))
        go_ret
        exact ⟨ret_int HB.out, by ((repeat (first | (with_reducible exact Below.refl _ _) | (with_reducible assumption) | (with_reducible refine Below.alloc ?_ ?_ _) | (with_reducible refine Below.setCell ?_ ?_ _) | (with_reducible refine Below.drew ?_) | (with_reducible refine below_setRow ?_ ?_ _) | (refine Below.trans ?_ (Below.mono (by assumption) ?_)))); all_goals (first | omega | (simp; done) | (simp; omega)))⟩
      · cases h4 : packOk f
        · have HB := Lib.hid (show (8 : Int) = R by rw [← HR.out, fldC, if_neg (by rw [h1]; simp), if_neg (by rw [h2]; simp), if_neg (by rw [h3]; simp), if_pos h4])
          simp only [packOk, Bool.not_eq_false', Bool.and_eq_true, Bool.or_eq_true, Bool.not_eq_true'] at h4
          obtain ⟨h5, h6⟩ := h4
          rw [h5] at kG d3
          cases h7 : f.rep
          · rw [h7] at kG d2
            go_wp2_with (first | (go_at_call 78; refine (isKind_any _ _).mono ?_; rintro r w1 ⟨rfl, rfl⟩))
            go_ret
            exact ⟨ret_int HB.out, by ((repeat (first | (with_reducible exact Below.refl _ _) | (with_reducible assumption) | (with_reducible refine Below.alloc ?_ ?_ _) | (with_reducible refine Below.setCell ?_ ?_ _) | (with_reducible refine Below.drew ?_) | (with_reducible refine below_setRow ?_ ?_ _) | (refine Below.trans ?_ (Below.mono (by assumption) ?_)))); all_goals (first | omega | (simp; done) | (simp; omega)))⟩
          · have h8 : inB f.kind 1 5 = false := by rcases h6 with h6 | h6; (rw [h7] at h6; simp at h6); exact h6
            rw [h7] at kG d2
            go_wp2_with (first | (go_at_call 78; refine (isKind_any _ _).mono ?_; rintro r w1 ⟨rfl, rfl⟩) | (go_at_call 79; refine (implNumeric_any _ _).mono ?_; rintro r w1 ⟨rfl, rfl⟩))
            go_ret
            exact ⟨ret_int HB.out, by ((repeat (first | (with_reducible exact Below.refl _ _) | (with_reducible assumption) | (with_reducible refine Below.alloc ?_ ?_ _) | (with_reducible refine Below.setCell ?_ ?_ _) | (with_reducible refine Below.drew ?_) | (with_reducible refine below_setRow ?_ ?_ _) | (refine Below.trans ?_ (Below.mono (by assumption) ?_)))); all_goals (first | omega | (simp; done) | (simp; omega)))⟩
        · have HP : f.packed = false ∨ f.packed = true ∧ f.rep = true ∧ inB f.kind 1 5 = true := by
            simp only [packOk] at h4
            cases h5 : f.packed <;> cases h6 : f.rep <;> cases h7 : inB f.kind 1 5 <;> simp [h5, h6, h7] at h4 ⊢
          have HE : ∀ v : Int, (if refBad xs f = true then (9 : Int) else 0) = v → v = R := fun v hv => by rw [← HR.out, fldC, if_neg (by rw [h1]; simp), if_neg (by rw [h2]; simp), if_neg (by rw [h3]; simp), if_neg (by rw [h4]; simp), hv]
          have HE2 := Lib.hid HE; clear HE h4
          by_cases h8 : f.kind = 8
          · have g8 : (f.kind == 8) = true := by simp; omega
            have g8n : (f.kind != 8) = false := by simp; omega
            have HRB := Lib.hid (show refBad xs f = !hasId xs f.msg by rw [refBad, if_pos h8])
            clear h8
            rcases HP with h5 | ⟨h5, h6, h7⟩
            · rw [h5] at kG d3
              go_wp2_with (first | (go_at_call 78; refine (isKind_any _ _).mono ?_; rintro r w1 ⟨rfl, rfl⟩))
              refine (implHasMsg_any (some ⟨b, off, none⟩) cap n xs f.msg _ (HH.out.keep hbw) HL.out hn).mono ?_
              rintro r w3 ⟨rfl, hb3⟩
              have hG3 := (hb3.block _ hlG).trans HGx.out
              have kG3 := box_cells hG3; clear hG3 kG kA
              cases h9 : hasId xs f.msg
              · have HB := Lib.hid (HE2.out 9 (by rw [HRB.out, h9]; rfl))
                go_wp2
                go_ret
                exact ⟨ret_int HB.out, by ((repeat (first | (with_reducible exact Below.refl _ _) | (with_reducible assumption) | (with_reducible refine Below.alloc ?_ ?_ _) | (with_reducible refine Below.setCell ?_ ?_ _) | (with_reducible refine Below.drew ?_) | (with_reducible refine below_setRow ?_ ?_ _) | (refine Below.trans ?_ (Below.mono (by assumption) ?_)))); all_goals (first | omega | (simp; done) | (simp; omega)))⟩
              · have HB := Lib.hid (HE2.out 0 (by rw [HRB.out, h9]; rfl))
                go_wp2
                go_ret
                exact ⟨ret_int HB.out, by ((repeat (first | (with_reducible exact Below.refl _ _) | (with_reducible assumption) | (with_reducible refine Below.alloc ?_ ?_ _) | (with_reducible refine Below.setCell ?_ ?_ _) | (with_reducible refine Below.drew ?_) | (with_reducible refine below_setRow ?_ ?_ _) | (refine Below.trans ?_ (Below.mono (by assumption) ?_)))); all_goals (first | omega | (simp; done) | (simp; omega)))⟩
            · rw [h5] at kG d3
              rw [h6] at kG d2
              go_wp2_with (first | (go_at_call 78; refine (isKind_any _ _).mono ?_; rintro r w1 ⟨rfl, rfl⟩) | (go_at_call 79; refine (implNumeric_any _ _).mono ?_; rintro r w1 ⟨rfl, rfl⟩))
              refine (implHasMsg_any (some ⟨b, off, none⟩) cap n xs f.msg _ (HH.out.keep hbw) HL.out hn).mono ?_
              rintro r w3 ⟨rfl, hb3⟩
              have hG3 := (hb3.block _ hlG).trans HGx.out
              have kG3 := box_cells hG3; clear hG3 kG kA
              cases h9 : hasId xs f.msg
              · have HB := Lib.hid (HE2.out 9 (by rw [HRB.out, h9]; rfl))
                go_wp2
                go_ret
                exact ⟨ret_int HB.out, by ((repeat (first | (with_reducible exact Below.refl _ _) | (with_reducible assumption) | (with_reducible refine Below.alloc ?_ ?_ _) | (with_reducible refine Below.setCell ?_ ?_ _) | (with_reducible refine Below.drew ?_) | (with_reducible refine below_setRow ?_ ?_ _) | (refine Below.trans ?_ (Below.mono (by assumption) ?_)))); all_goals (first | omega | (simp; done) | (simp; omega)))⟩
              · have HB := Lib.hid (HE2.out 0 (by rw [HRB.out, h9]; rfl))
                go_wp2
                go_ret
                exact ⟨ret_int HB.out, by ((repeat (first | (with_reducible exact Below.refl _ _) | (with_reducible assumption) | (with_reducible refine Below.alloc ?_ ?_ _) | (with_reducible refine Below.setCell ?_ ?_ _) | (with_reducible refine Below.drew ?_) | (with_reducible refine below_setRow ?_ ?_ _) | (refine Below.trans ?_ (Below.mono (by assumption) ?_)))); all_goals (first | omega | (simp; done) | (simp; omega)))⟩
          · have g8 : (f.kind == 8) = false := by simp; omega
            have g8n : (f.kind != 8) = true := by simp; omega
            have HRB := Lib.hid (show refBad xs f = !(f.msg == 0) by rw [refBad, if_neg h8])
            clear h8
            rcases HP with h5 | ⟨h5, h6, h7⟩
            · rw [h5] at kG d3
              by_cases h9 : f.msg = 0
              · have g9 : (f.msg == 0) = true := by simp; omega
                have g9n : (f.msg != 0) = false := by simp; omega
                have HB := Lib.hid (HE2.out 0 (by rw [HRB.out, g9]; rfl))
                clear h9
                go_wp2_with (first | (go_at_call 78; refine (isKind_any _ _).mono ?_; rintro r w1 ⟨rfl, rfl⟩))
                go_ret
                exact ⟨ret_int HB.out, by ((repeat (first | (with_reducible exact Below.refl _ _) | (with_reducible assumption) | (with_reducible refine Below.alloc ?_ ?_ _) | (with_reducible refine Below.setCell ?_ ?_ _) | (with_reducible refine Below.drew ?_) | (with_reducible refine below_setRow ?_ ?_ _) | (refine Below.trans ?_ (Below.mono (by assumption) ?_)))); all_goals (first | omega | (simp; done) | (simp; omega)))⟩
              · have g9 : (f.msg == 0) = false := by simp; omega
                have g9n : (f.msg != 0) = true := by simp; omega
                have HB := Lib.hid (HE2.out 9 (by rw [HRB.out, g9]; rfl))
                clear h9
                go_wp2_with (first | (go_at_call 78; refine (isKind_any _ _).mono ?_; rintro r w1 ⟨rfl, rfl⟩))
                go_ret
                exact ⟨ret_int HB.out, by ((repeat (first | (with_reducible exact Below.refl _ _) | (with_reducible assumption) | (with_reducible refine Below.alloc ?_ ?_ _) | (with_reducible refine Below.setCell ?_ ?_ _) | (with_reducible refine Below.drew ?_) | (with_reducible refine below_setRow ?_ ?_ _) | (refine Below.trans ?_ (Below.mono (by assumption) ?_)))); all_goals (first | omega | (simp; done) | (simp; omega)))⟩
            · rw [h5] at kG d3
              rw [h6] at kG d2
              by_cases h9 : f.msg = 0
              · have g9 : (f.msg == 0) = true := by simp; omega
                have g9n : (f.msg != 0) = false := by simp; omega
                have HB := Lib.hid (HE2.out 0 (by rw [HRB.out, g9]; rfl))
                clear h9
                go_wp2_with (first | (go_at_call 78; refine (isKind_any _ _).mono ?_; rintro r w1 ⟨rfl, rfl⟩) | (go_at_call 79; refine (implNumeric_any _ _).mono ?_; rintro r w1 ⟨rfl, rfl⟩))
                go_ret
                exact ⟨ret_int HB.out, by ((repeat (first | (with_reducible exact Below.refl _ _) | (with_reducible assumption) | (with_reducible refine Below.alloc ?_ ?_ _) | (with_reducible refine Below.setCell ?_ ?_ _) | (with_reducible refine Below.drew ?_) | (with_reducible refine below_setRow ?_ ?_ _) | (refine Below.trans ?_ (Below.mono (by assumption) ?_)))); all_goals (first | omega | (simp; done) | (simp; omega)))⟩
              · have g9 : (f.msg == 0) = false := by simp; omega
                have g9n : (f.msg != 0) = true := by simp; omega
                have HB := Lib.hid (HE2.out 9 (by rw [HRB.out, g9]; rfl))
                clear h9
                go_wp2_with (first | (go_at_call 78; refine (isKind_any _ _).mono ?_; rintro r w1 ⟨rfl, rfl⟩) | (go_at_call 79; refine (implNumeric_any _ _).mono ?_; rintro r w1 ⟨rfl, rfl⟩))
                go_ret
                exact ⟨ret_int HB.out, by ((repeat (first | (with_reducible exact Below.refl _ _) | (with_reducible assumption) | (with_reducible refine Below.alloc ?_ ?_ _) | (with_reducible refine Below.setCell ?_ ?_ _) | (with_reducible refine Below.drew ?_) | (with_reducible refine below_setRow ?_ ?_ _) | (refine Below.trans ?_ (Below.mono (by assumption) ?_)))); all_goals (first | omega | (simp; done) | (simp; omega)))⟩
    · have HB := Lib.hid (show (6 : Int) = R by rw [← HR.out, fldC, if_neg (by rw [h1]; simp), if_pos h2])
      go_wp2
      go_ret
      exact ⟨ret_int HB.out, by ((repeat (first | (with_reducible exact Below.refl _ _) | (with_reducible assumption) | (with_reducible refine Below.alloc ?_ ?_ _) | (with_reducible refine Below.setCell ?_ ?_ _) | (with_reducible refine Below.drew ?_) | (with_reducible refine below_setRow ?_ ?_ _) | (refine Below.trans ?_ (Below.mono (by assumption) ?_)))); all_goals (first | omega | (simp; done) | (simp; omega)))⟩
set_option maxRecDepth 100000 in
set_option maxHeartbeats 4000000 in
theorem implFirst_any (a : Option Addr) (cap n : Nat) (xs : List Shp) (w : World) (h : ShsL w a xs) (hl : xs.length = n) (hn : n ≤ 1048576) (hcap : n ≤ cap) (hm : fldSum xs ≤ 1048576) :
    Calls Try.prog 32 #[.agg #[.slice a n cap]] w fun r w' => r = .returned (vioV (firstV xs)) ∧ Below w.heap.size w w' := by
  have HL := Lib.hid hl; clear hl
  have HH := Lib.hid h; clear h
  obtain ⟨R, hR⟩ : ∃ R, firstV xs = R := ⟨_, rfl⟩
  rw [hR]
  go_enter Try.func32, Try.ntmps32
  by_cases h6 : 6 < n
  · have hR1 : R = (1, 6, -1) := by rw [← hR, firstV, if_pos (by rw [HL.out]; exact h6)]
    subst hR1
    have h6' : (6 : Int) < (n : Int) := by omega
    go_wp2
    refine bodyPost_ret (vio_res (B := w.heap.size + 1) (x := 1) (y := 6) (z := -1) Try.results32 rfl ?_) rfl ⟨rfl, by ((repeat (first | (with_reducible exact Below.refl _ _) | (with_reducible assumption) | (with_reducible refine Below.alloc ?_ ?_ _) | (with_reducible refine Below.setCell ?_ ?_ _) | (with_reducible refine Below.drew ?_) | (with_reducible refine below_setRow ?_ ?_ _) | (refine Below.trans ?_ (Below.mono (by assumption) ?_)))); all_goals (first | omega | (simp; done) | (simp; omega)))⟩
    exact hset_new (by simp)
  · have HR := Lib.hid (show firstM xs 0 (xs.drop 0) = R by rw [← hR, firstV, if_neg (by rw [HL.out]; exact h6)]; rfl)
    have h6' : decide ((6 : Int) < (n : Int)) = false := decide_eq_false (by omega)
    clear hR
    go_wp2
    go_loopw [16] (fun i wr => ∃ k : Nat, k ≤ n ∧ i = .int .i64 k ∧ Hid (firstM xs k (xs.drop k) = R) ∧ wr.heap[w.heap.size]? = some (.cells #[.slice a n cap] 26 (0, 0)) ∧ wr.heap[w.heap.size + 1]? = some (.cells #[.int .i64 0, .int .i64 0, .int .i64 0] 32 (0, 0)) ∧ Below w.heap.size w wr) (fun i _ => n - (intOf i).toNat)
    case atStart => exact ⟨0, Nat.zero_le _, rfl, HR, hset_alloc (hset_new rfl), hset_new (by simp), by ((repeat (first | (with_reducible exact Below.refl _ _) | (with_reducible assumption) | (with_reducible refine Below.alloc ?_ ?_ _) | (with_reducible refine Below.setCell ?_ ?_ _) | (with_reducible refine Below.drew ?_) | (with_reducible refine below_setRow ?_ ?_ _) | (refine Below.trans ?_ (Below.mono (by assumption) ?_)))); all_goals (first | omega | (simp; done) | (simp; omega)))⟩
    case round =>
      obtain ⟨k, hk, rfl, HK, hA, hV, hb⟩ := hrel
      have kA := box_cells hA 0; have kV := box_cells hV; have fV := box_frozen hV; have hlA := box_lt hA; have hlV := box_lt hV
      simp only [List.getElem?_toArray, List.getElem?_cons_zero] at kA
      have HA := Lib.hid hA; have HV := Lib.hid hV; clear hA hV
      by_cases hlt : k < n
      · obtain ⟨x, hx, _⟩ := at_lt (xs := xs) (k := k) (by rw [HL.out]; exact hlt)
        have hfl : x.flds.length ≤ 1048576 := by have := fldSum_ge hx; omega
        have hsl := HH.out.keep hb
        obtain ⟨b, off, a', cap', rfl, hbl, c0, c1, hfs, hcp⟩ := hsl k x hx
        have HX := Lib.hid hx; clear hx
        have HS := Lib.hid hsl; clear hsl hfs
        go_wp2_with fail
        refine (implMsgCode_any (some ⟨b, off, none⟩) cap n k xs x _ (HS.out.keep (by ((repeat (first | (with_reducible exact Below.refl _ _) | (with_reducible assumption) | (with_reducible refine Below.alloc ?_ ?_ _) | (with_reducible refine Below.setCell ?_ ?_ _) | (with_reducible refine Below.drew ?_) | (with_reducible refine below_setRow ?_ ?_ _) | (refine Below.trans ?_ (Below.mono (by assumption) ?_)))); all_goals (first | omega | (simp; done) | (simp; omega))))) HL.out hn hcap HX.out hlt hfl).mono ?_
        rintro r w1 ⟨rfl, hb1⟩
        have hA1 := (hb1.block _ (by simp; omega)).trans (hset_alloc HA.out)
        have hV1 := (hb1.block _ (by simp; omega)).trans (hset_alloc HV.out)
        have hM1 := (hb1.block wr.heap.size (by simp)).trans (hset_new (o := .cells #[.int .i64 x.id, .slice a' x.flds.length cap'] 40) (by simp))
        have hz1 := hb1.size
        simp only [World.size_alloc] at hz1
        have hbq : Below wr.heap.size wr w1 := by ((repeat (first | (with_reducible exact Below.refl _ _) | (with_reducible assumption) | (with_reducible refine Below.alloc ?_ ?_ _) | (with_reducible refine Below.setCell ?_ ?_ _) | (with_reducible refine Below.drew ?_) | (with_reducible refine below_setRow ?_ ?_ _) | (refine Below.trans ?_ (Below.mono (by assumption) ?_)))); all_goals (first | omega | (simp; done) | (simp; omega)))
        have hbw1 : Below w.heap.size w w1 := hb.trans (hbq.mono hb.size)
        have HS1 := Lib.hid (HS.out.keep hbq)
        have kM := box_cells hM1
        clear kA kV fV hlA hlV c0 c1 hb hb1 hbq HS HA HV hbl hM1
        have kA := box_cells hA1 0; have kV := box_cells hV1; have fV := box_frozen hV1; have hlA := box_lt hA1; have hlV := box_lt hV1
        simp only [List.getElem?_toArray, List.getElem?_cons_zero] at kA
        have HA := Lib.hid hA1; have HV := Lib.hid hV1; clear hA1 hV1
        by_cases hz : msgC xs k x = 0
        · obtain ⟨O, hO⟩ : ∃ O, firstF xs k x.flds 0 x.flds = O := ⟨_, rfl⟩
          have HM := fM_ok HK.out HX.out hz
          rw [hO] at HM
          have HMx := Lib.hid HM; clear HM
          have HO := Lib.hid (show firstF xs k x.flds 0 (x.flds.drop 0) = O from hO); clear hO
          have hz' : (msgC xs k x != 0) = false := by simp [hz]
          rw [hz]
          clear hz hz'
          go_wp2
          obtain ⟨wo, hwo⟩ : ∃ wo : World, wo = w1 := ⟨_, rfl⟩
          rw [← hwo] at HA HV hbw1 HS1 kA kV fV hlA hlV ⊢
          clear kM hz1
          clear hwo
          go_loopw [32] (fun j wi => ∃ q : Nat, q ≤ x.flds.length ∧ j = .int .i64 q ∧ Hid (firstF xs k x.flds q (x.flds.drop q) = O) ∧ Below wo.heap.size wo wi) (fun j _ => x.flds.length - (intOf j).toNat)
          case atStart => exact ⟨0, Nat.zero_le _, rfl, HO, Below.refl _ _⟩
          case round =>
            obtain ⟨q, hq, rfl, HQ, hbi⟩ := hrel
            obtain ⟨wi, hwi⟩ : ∃ wi : World, wi = wr := ⟨_, rfl⟩
            rw [← hwi] at hbi ⊢
            clear hwi
            have hAi := (hbi.block _ hlA).trans HA.out
            have hVi := (hbi.block _ hlV).trans HV.out
            have hbwi : Below w.heap.size w wi := hbw1.trans (hbi.mono hbw1.size)
            have HSi := Lib.hid (HS1.out.keep hbi)
            clear kA kV fV
            have kA := box_cells hAi 0; have kV := box_cells hVi; have fV := box_frozen hVi; have hlAi := box_lt hAi; have hlVi := box_lt hVi
            simp only [List.getElem?_toArray, List.getElem?_cons_zero] at kA
            have HVi := Lib.hid hVi; clear hVi hAi
            by_cases hlq : q < x.flds.length
            · obtain ⟨f, hf, _⟩ := at_lt (xs := x.flds) (k := q) hlq
              have HF := Lib.hid hf; clear hf
              go_wp2_with fail
              refine (implFieldCode_any (some ⟨b, off, none⟩) cap n k q xs x f wi HSi.out HL.out hn HX.out hlt hfl HF.out hlq).mono ?_
              rintro r w3 ⟨rfl, hb3⟩
              have hV3 := (hb3.block _ hlVi).trans HVi.out
              have hbw3 : Below w.heap.size w w3 := hbwi.trans (hb3.mono hbwi.size)
              have kV3 := box_cells hV3; have fV3 := box_frozen hV3; have hlV3 := box_lt hV3
              have HV3 := Lib.hid hV3; clear hV3 kV fV
              by_cases hz : fldC xs x.flds q f = 0
              · rw [hz]
                have HQ2 := Lib.hid (fF_ok HQ.out HF.out hz)
                clear hz
                go_wp2
                go_roundw
                case rel => exact ⟨q + 1, by omega, by go_num, HQ2, hbi.trans (hb3.mono hbi.size)⟩
                case measure => simp [intOf]; omega
              · have hO2 := fF_bad HQ.out HF.out hz
                have hR2 : (fldC xs x.flds q f, (k : Int), (q : Int)) = R := by have := HMx.out; rw [← hO2] at this; exact this
                have HR2 := Lib.hid hR2; clear hR2 hO2
                have gz : (fldC xs x.flds q f == 0) = false := by simp [hz]
                have gzn : (fldC xs x.flds q f != 0) = true := by simp [hz]
                clear hz
                go_wp2
                refine bodyPost_ret (vio_res (B := w.heap.size + 1) (x := fldC xs x.flds q f) (y := k) (z := q) Try.results32 rfl ?_) rfl ⟨?_, by ((repeat (first | (with_reducible exact Below.refl _ _) | (with_reducible assumption) | (with_reducible refine Below.alloc ?_ ?_ _) | (with_reducible refine Below.setCell ?_ ?_ _) | (with_reducible refine Below.drew ?_) | (with_reducible refine below_setRow ?_ ?_ _) | (refine Below.trans ?_ (Below.mono (by assumption) ?_)))); all_goals (first | omega | (simp; done) | (simp; omega)))⟩
                · apply hset_eq (hset_set (hset_set (hset_set HV3.out))); simp only [List.setIfInBounds_toArray, List.set_cons_zero, List.set_cons_succ]
                · rw [← HR2.out]; rfl
            · have hO2 := fF_end HQ.out (by omega)
              have HK2 := Lib.hid (show firstM xs (k + 1) (xs.drop (k + 1)) = R by have := HMx.out; rw [← hO2] at this; exact this)
              clear hO2
              go_wp2
              go_roundw
              case rel => exact ⟨k + 1, by omega, by go_num, HK2, (hbi.block _ hlA).trans HA.out, HVi.out, hbwi⟩
              case measure => simp [intOf]; omega
        · have hR2 := fM_bad HK.out HX.out hz
          have HR2 := Lib.hid hR2; clear hR2
          have gz : (msgC xs k x == 0) = false := by simp [hz]
          have gzn : (msgC xs k x != 0) = true := by simp [hz]
          clear hz
          go_wp2
          refine bodyPost_ret (vio_res (B := w.heap.size + 1) (x := msgC xs k x) (y := k) (z := -1) Try.results32 rfl ?_) rfl ⟨?_, by ((repeat (first | (with_reducible exact Below.refl _ _) | (with_reducible assumption) | (with_reducible refine Below.alloc ?_ ?_ _) | (with_reducible refine Below.setCell ?_ ?_ _) | (with_reducible refine Below.drew ?_) | (with_reducible refine below_setRow ?_ ?_ _) | (refine Below.trans ?_ (Below.mono (by assumption) ?_)))); all_goals (first | omega | (simp; done) | (simp; omega)))⟩
          · apply hset_eq (hset_set (hset_set (hset_set HV.out))); simp only [List.setIfInBounds_toArray, List.set_cons_zero, List.set_cons_succ]
          · rw [← HR2.out]; rfl
      · obtain rfl : k = n := by omega
        have hR2 := fM_end HK.out (by rw [HL.out]; omega)
        have HR2 := Lib.hid hR2; clear hR2
        go_wp2
        refine bodyPost_ret (vio_res (B := w.heap.size + 1) (x := 0) (y := 0) (z := 0) Try.results32 rfl ?_) rfl ⟨?_, by ((repeat (first | (with_reducible exact Below.refl _ _) | (with_reducible assumption) | (with_reducible refine Below.alloc ?_ ?_ _) | (with_reducible refine Below.setCell ?_ ?_ _) | (with_reducible refine Below.drew ?_) | (with_reducible refine below_setRow ?_ ?_ _) | (refine Below.trans ?_ (Below.mono (by assumption) ?_)))); all_goals (first | omega | (simp; done) | (simp; omega)))⟩
        · apply hset_eq (hset_set (hset_set (hset_set HV.out))); simp only [List.setIfInBounds_toArray, List.set_cons_zero, List.set_cons_succ]
        · rw [← HR2.out]; rfl
end Go.Proofs.Ytbpilecgnfnndaa
namespace Go.Proofs.Ytbpilecgnfnndaa
set_option linter.unusedSimpArgs false
set_option linter.unusedVariables false
open Go.ChangeShapes Go.WideShapes Go.ChangeAt Go.RowKit Go.BigFrame Go.Sort
theorem sortInts_own (B g cap n : Nat) (zs : List Int) (w : World) (h : w.ownsRow B 3 1 (.slice (some ⟨g, 0, none⟩) n cap) n (zs.map (Value.int .i64))) (hl : zs.length = n) (hn : n ≤ 1000) :
    Calls Try.prog 33 #[.slice (some ⟨g, 0, none⟩) n cap] w fun r w' => r = .returned (.tuple #[]) ∧ w'.ownsRow B 3 1 (.slice (some ⟨g, 0, none⟩) n cap) n ((sortI zs).map (Value.int .i64)) ∧ w.grownBy w' (some g) := by
  subst hl
  rcases h.2 with ⟨h0, _⟩ | ⟨g', cap', cur, hv, hg, hb, hn1, hcap, hsz, ht⟩
  · cases h0
  · simp only [Value.slice.injEq, Option.some.injEq, Addr.mk.injEq, and_true] at hv
    obtain ⟨rfl, _, rfl⟩ := hv
    have hH := holds_of_blockI hb (by simpa using ht)
    refine (Try.slices_Sort_int g 0 cap zs w hH (block_lt hb) (by omega)).mono ?_
    rintro e w' ⟨rfl, n, os, rfl⟩
    exact ⟨rfl, ownsRow_sortedI (by simp [sortI_len]) hg hb hn1 hcap hsz, grownBy_sortedI _⟩
theorem index_own (B g cap n : Nat) (zs : List Int) (x : Int) (w : World) (h : w.ownsRow B 3 1 (.slice (some ⟨g, 0, none⟩) n cap) n (zs.map (Value.int .i64))) (hl : zs.length = n) (hn : n ≤ 1000) :
    Calls Try.prog 36 #[.slice (some ⟨g, 0, none⟩) n cap, .int .i64 x] w fun r w' => r = .returned (.int .i64 (Lib.idxOf zs x)) ∧ w = w' := by
  have hc : ∀ j, j < zs.length → w.cell? ⟨g, 0 + j, none⟩ = some (.int .i64 (zs.getD j 0)) := fun j hj => by
    rw [Nat.zero_add]
    exact own_at h (by rw [List.getElem?_map, List.getD_eq_getElem?_getD, List.getElem?_eq_getElem hj]; rfl)
  refine (Try.slices_Index_int g 0 n cap zs x w (by omega) (by omega) hc).mono ?_
  rintro e w' ⟨rfl, rfl⟩
  exact ⟨by rw [List.take_of_length_le (by omega)], rfl⟩
theorem RawVal.id_inj {xs : List Shp} (h : RawVal xs) {x y : Shp} (hx : x ∈ xs) (hy : y ∈ xs) (e : x.id = y.id) : x = y := by
  obtain ⟨p, hp⟩ := List.getElem?_of_mem hx
  obtain ⟨q, hq⟩ := List.getElem?_of_mem hy
  have hn := h.nodup
  rw [List.nodup_iff_pairwise_ne, List.pairwise_iff_getElem] at hn
  obtain ⟨hpl, hpe⟩ := List.getElem?_eq_some_iff.1 hp
  obtain ⟨hql, hqe⟩ := List.getElem?_eq_some_iff.1 hq
  rcases Nat.lt_trichotomy p q with hlt | rfl | hlt
  · exact (hn p q (by simpa using hpl) (by simpa using hql) hlt (by simp only [List.getElem_map, hpe, hqe, e])).elim
  · rw [hp] at hq; exact Option.some.inj hq
  · exact (hn q p (by simpa using hql) (by simpa using hpl) hlt (by simp only [List.getElem_map, hpe, hqe, e])).elim
theorem shAt_first {id : Int} : ∀ {rest : List Shp} {k : Nat} {x : Shp}, x ∈ rest → x.id = id → ∃ (j : Nat) (y : Shp), rest[j]? = some y ∧ y.id = id ∧ shAt id k rest = ((k + j : Nat) : Int)
  | z :: rest, k, x, hx, e => by
    by_cases hz : z.id = id
    · exact ⟨0, z, rfl, hz, by rw [shAt, if_pos hz]; simp⟩
    · have hr : x ∈ rest := by
        rcases List.mem_cons.1 hx with rfl | hr
        · exact absurd e hz
        · exact hr
      obtain ⟨j, y, h1, h2, h3⟩ := shAt_first (k := k + 1) hr e
      exact ⟨j + 1, y, by simpa using h1, h2, by rw [shAt, if_neg hz, h3]; omega⟩
theorem RawVal.shAt_val {xs : List Shp} (h : RawVal xs) {x : Shp} (hx : x ∈ xs) : ∃ j : Nat, xs[j]? = some x ∧ shAt x.id 0 xs = j := by
  obtain ⟨j, y, h1, h2, h3⟩ := shAt_first (k := 0) hx rfl
  have := h.id_inj (List.mem_of_getElem? h1) hx h2
  subst this
  exact ⟨j, h1, by simpa using h3⟩
theorem own_some {w : World} {base n size : Nat} {t : TypeId} {v : Value} {L : List Value} (h : w.ownsRow base t size v n L) (hn : 0 < n) : ∃ g cap, v = .slice (some ⟨g, 0, none⟩) n cap ∧ base ≤ g := by
  rcases h.2 with ⟨_, h0⟩ | ⟨g, c, cur, e, hb, _⟩
  · omega
  · exact ⟨g, c, e, hb⟩
theorem ids_snoc {xs : List Shp} {k : Nat} {x : Shp} (hx : xs[k]? = some x) : ((xs.take (k + 1)).map Shp.id).map (Value.int .i64) = ((xs.take k).map Shp.id).map (Value.int .i64) ++ [.int .i64 x.id] := by
  rw [List.take_add_one, hx]; simp
theorem info_Int : (Try.prog.info? 3).map (fun i => (i.zero, i.size, i.bytes)) = some (some (.int .i64 0), 1, 8) := by kernel_rfl
theorem firstV_zero {xs : List Shp} (h : (firstV xs).1 = 0) : firstV xs = (0, 0, 0) := by
  have hv := val_of h
  have hn := hv.n
  rw [firstV, if_neg (by omega)]
  have := firstM_zero (xs := xs) (fun i x hx => ⟨hv.msg i x hx, hv.fld i x hx⟩) 0
  simpa using this
theorem results_cell_cell {fn : Func} {p q : Tmp} {ty ty2 : TypeId} (h : fn.results = #[.cell p ty, .cell q ty2]) {tmps : Array Value} {a b : Addr} (hp : tmps.getD p undef = .pointer (some a)) (hq : tmps.getD q undef = .pointer (some b)) {P : Program} {w : World} {v u : Value} (hv : (loadVar ty a).run P w = .ok v w) (hu : (loadVar ty2 b).run P w = .ok u w) : (results fn tmps).run P w = .ok (.tuple #[v, u]) w := by
  have hp' : tmps[p]?.getD undef = .pointer (some a) := by simpa using hp
  have hq' : tmps[q]?.getD undef = .pointer (some b) := by simpa using hq
  simp only [results, h]
  simp [Sem.run_bind, Result.andThen, hp', hq', asAddr, hv, hu]
set_option maxRecDepth 100000 in
set_option maxHeartbeats 4000000 in
theorem implCompile_bad (a : Option Addr) (cap n : Nat) (xs : List Shp) (w : World) (h : ShsL w a xs) (hx : xs.length = n) (hn : n ≤ 1048576) (hcap : n ≤ cap) (hm : fldSum xs ≤ 1048576) (hb : ¬ (firstV xs).1 = 0) :
    Calls Try.prog 8 #[.agg #[.slice a n cap]] w fun r w' => r = .returned (.tuple #[.agg #[.slice none 0 0], vioV (firstV xs)]) ∧ Below w.heap.size w w' := by
  have HX := Lib.hid hx; clear hx
  have HSs := Lib.hid h; clear h
  go_enter Try.func8, Try.ntmps8
  go_wp2_with fail
  refine (implFirst_any a cap n xs _ (HSs.out.keep (by ((repeat (first | (with_reducible exact Below.refl _ _) | (with_reducible assumption) | (with_reducible refine Below.alloc ?_ ?_ _) | (with_reducible refine Below.setCell ?_ ?_ _) | (with_reducible refine Below.drew ?_) | (with_reducible refine below_setRow ?_ ?_ _) | (refine Below.trans ?_ (Below.mono (by assumption) ?_)))); all_goals (first | omega | (simp; done) | (simp; omega))))) HX.out hn hcap hm).mono ?_
  rintro r w1 ⟨rfl, hb1⟩
  obtain ⟨⟨c, m, f⟩, hv⟩ : ∃ v, firstV xs = v := ⟨_, rfl⟩
  rw [hv] at hb ⊢
  have HV := Lib.hid hv; clear hv
  simp only [vioV]
  have hc : (c == 0) = false := by simpa using hb
  clear hb
  have hS_ : w1.heap[w.heap.size + 1]? = some (.cells #[.slice none 0 0] 30 (0, 0)) := (hb1.block _ (by simp)).trans (hset_alloc (hset_new (by simp)))
  have hV_ : w1.heap[w.heap.size + 1 + 1]? = some (.cells #[.int .i64 0, .int .i64 0, .int .i64 0] 32 (0, 0)) := (hb1.block _ (by simp)).trans (hset_new (by simp))
  have hbw : Below w.heap.size w w1 := by ((repeat (first | (with_reducible exact Below.refl _ _) | (with_reducible assumption) | (with_reducible refine Below.alloc ?_ ?_ _) | (with_reducible refine Below.setCell ?_ ?_ _) | (with_reducible refine Below.drew ?_) | (with_reducible refine below_setRow ?_ ?_ _) | (refine Below.trans ?_ (Below.mono (by assumption) ?_)))); all_goals (first | omega | (simp; done) | (simp; omega)))
  have hz1 := hb1.size
  simp only [World.size_alloc, World.size_setCell] at hz1
  clear hb1
  have kS := box_cells hS_; have fS := box_frozen hS_; have hSl := box_lt hS_
  have kV := box_cells hV_; have fV := box_frozen hV_; have hVl := box_lt hV_
  go_wp2
  go_region
  all_goals go_wp2
  all_goals
    refine bodyPost_ret (results_cell_cell Try.results8 rfl rfl (run_loadVar_mid _ (w.heap.size + 1) 0 30 [.slice none 0 0] _ (range_of_box (t := 30) ?_) Try.underlying30 rfl (by kernel_rfl)) (run_loadVar_mid _ (w.heap.size + 1 + 1) 0 32 [.int .i64 c, .int .i64 m, .int .i64 f] _ (range_of_box (t := 32) ?_) Try.underlying32 rfl (by kernel_rfl))) rfl ⟨?_, by ((repeat (first | (with_reducible exact Below.refl _ _) | (with_reducible assumption) | (with_reducible refine Below.alloc ?_ ?_ _) | (with_reducible refine Below.setCell ?_ ?_ _) | (with_reducible refine Below.drew ?_) | (with_reducible refine below_setRow ?_ ?_ _) | (refine Below.trans ?_ (Below.mono (by assumption) ?_)))); all_goals (first | omega | (simp; done) | (simp; omega)))⟩
    · apply hset_eq (hset_drew (hset_alloc (hset_other (hset_other (hset_other (hset_set hS_) (by simp)) (by simp)) (by simp)))); rfl
    · apply hset_eq (hset_drew (hset_alloc (hset_set (hset_set (hset_set (hset_other hV_ (by simp))))))); rfl
    · rw [HV.out]; rfl
end Go.Proofs.Ytbpilecgnfnndaa
namespace Go.Proofs.Ytbpilecgnfnndaa
set_option linter.unusedSimpArgs false
set_option linter.unusedVariables false
open Go.ChangeShapes Go.WideShapes Go.ChangeAt Go.RowKit Go.BigFrame Go.Sort Go.Shelf Go.Lib
theorem cmpF_any (f g : Fld) (w : World) :
    Calls Try.prog 38 #[f.val, g.val] w fun r w' => r = .returned (.int .i64 (numC f g)) ∧ ∃ q os, w' = grow (w.drewN q) os := by
  go_enter Try.func38, Try.ntmps38
  go_wp2_with (first | (go_at_call 39; refine (Try.cmp_Compare_int _ _ _).mono ?_; rintro r w2 ⟨rfl, rfl⟩))
  go_ret
  exact ⟨rfl, 0, #[_, _], by rw [alloc_eq_grow, alloc_eq_grow, grow_grow]; rfl⟩
theorem cmpF_lays (blk off size : Nat) (w : World) : CmpLays Try.prog 38 #[] Fld.cs 5 numC blk off size w := by
  intro m os dk hs x y
  exact cmpF_any x y _
theorem entF : ∀ args w, (callFunc 38 args).run Try.prog w = .ok (.enter 38 args) w := enters_of Try.func38 (by kernel_rfl) rfl
set_option maxHeartbeats 1000000 in
theorem sortFlds_own (B cap n : Nat) (a : Option Addr) (fs : List Fld) (w : World) (h : w.ownsRow B 47 5 (.slice a n cap) n (fs.flatMap Fld.cs)) (hl : fs.length = n) (hn : n ≤ 1000) :
    Calls Try.prog 37 #[.slice a n cap, .func (.func 38) #[] #[]] w fun r w' => r = .returned (.tuple #[]) ∧ ∃ d : List Fld, d.Perm fs ∧ d.Pairwise NumLe ∧ w'.ownsRow B 47 5 (.slice a n cap) n (d.flatMap Fld.cs) ∧ w.grownBy w' (Value.slice a n cap).ownBlock := by
  subst hl
  rcases h.2 with ⟨h0, h00⟩ | ⟨g', cap', cur, hv, hg, hb, hn1, hcap, hsz, ht⟩
  · simp only [Value.slice.injEq] at h0
    obtain ⟨rfl, h1, rfl⟩ := h0
    rw [h1] at h ⊢
    refine (Try.slices_SortFunc_none (α := Fld) none 0 _ w).mono ?_
    rintro e w' ⟨rfl, rfl⟩
    have : fs = [] := List.length_eq_zero_iff.1 h1
    subst this
    exact ⟨rfl, [], .refl _, .nil, h, ⟨rfl, rfl, rfl, Nat.le_refl _, fun _ _ _ => rfl⟩⟩
  · simp only [Value.slice.injEq] at hv
    obtain ⟨rfl, _, rfl⟩ := hv
    have hfl : (flatK Fld.cs 5 fs.toArray).toList = fs.flatMap Fld.cs := flat_flds fs
    have hH : HoldsK Fld.cs 5 w g' 0 fs.toArray := holdsV hb (by rw [hfl]; simpa using ht)
    refine (Try.slices_SortFunc 5 Try.isAgg47 Try.sizeOf47 Fld.cs fld_len (by intro x v hv; simp [Fld.cs] at hv; rcases hv with rfl | rfl | rfl | rfl | rfl <;> rfl) numC numC_swo 38 #[] g' 0 cap fs.toArray w entF (cmpF_lays _ _ _ _) hH (block_lt hb) (by simpa using (by omega : fs.length < 4611686018427387904))).mono ?_
    rintro e w' ⟨rfl, d', m, os, hp, hso, rfl⟩
    have hps := perm_list hp
    have hds : d'.size = fs.length := by simpa using hp.1
    refine ⟨rfl, d'.toList, hps, sorted_list (by rw [hds]; simpa using hso), ?_, grownV _ _⟩
    have := ownV (w := w) (base := B) (g := g') (cap := cap) (n := fs.length) (k := m) (sz := 5) (os := os) (L := flatK Fld.cs 5 d') (by simp [hds]) hg hb hn1 hcap hsz
    have e2 : (flatK Fld.cs 5 d').toList = d'.toList.flatMap Fld.cs := by have := flat_flds d'.toList; simpa using this
    rw [e2] at this
    exact this
theorem own_block {w w' : World} {base n size c g : Nat} {t : TypeId} {L : List Value} (h : w.ownsRow base t size (.slice (some ⟨g, 0, none⟩) n c) n L) (hg : w'.heap[g]? = w.heap[g]?) : w'.ownsRow base t size (.slice (some ⟨g, 0, none⟩) n c) n L := by
  refine ⟨h.1, ?_⟩
  rcases h.2 with ⟨h0, _⟩ | ⟨g', cap', cur, hv, hb, hc, hr⟩
  · cases h0
  · refine .inr ⟨g', cap', cur, hv, hb, ?_, hr⟩
    simp only [Value.slice.injEq, Option.some.injEq, Addr.mk.injEq, and_true] at hv
    rw [← hv.1] at hc ⊢
    rw [hg]; exact hc
theorem ifld_take {ids : List Int} {fs : List Fld} {k : Nat} {f : Fld} (hf : fs[k]? = some f) : ((fs.take (k + 1)).map (ifld ids)).flatMap Fld.cs = ((fs.take k).map (ifld ids)).flatMap Fld.cs ++ (ifld ids f).cs := by
  rw [List.take_add_one, hf]; simp
end Go.Proofs.Ytbpilecgnfnndaa
namespace Go.Proofs.Ytbpilecgnfnndaa
set_option linter.unusedSimpArgs false
set_option linter.unusedVariables false
open Go.ChangeShapes Go.WideShapes Go.ChangeAt Go.RowKit Go.BigFrame
theorem typed_ne {w : World} {b : Nat} {cur cur' : Array Value} {t t' : TypeId} (h : w.heap[b]? = some (.cells cur t (0, 0))) (h' : w.heap[b]? = some (.cells cur' t' (0, 0))) : t = t' := by
  rw [h] at h'
  simp only [Option.some.injEq, Obj.cells.injEq] at h'
  exact h'.2.1
theorem own_blk {w : World} {base n size : Nat} {t : TypeId} {v : Value} {L : List Value} (h : w.ownsRow base t size v n L) {g : Nat} (hg : v.ownBlock = some g) : ∃ cur, w.heap[g]? = some (.cells cur t (0, 0)) := by
  rcases h.2 with ⟨rfl, _⟩ | ⟨g', cap, cur, rfl, _, hh, _⟩
  · simp [Value.ownBlock] at hg
  · simp only [Value.ownBlock, Option.some.injEq] at hg; subst hg; exact ⟨cur, hh⟩
def Other (w : World) (row : Option Nat) (t : TypeId) : Prop := ∀ g, row = some g → ∃ cur tt, w.heap[g]? = some (.cells cur tt (0, 0)) ∧ tt ≠ t
theorem owns_keep {w w' : World} {base n size : Nat} {t : TypeId} {v : Value} {L : List Value} {row : Option Nat} (h : w.ownsRow base t size v n L) (hg : w.grownBy w' row) (ho : Other w row t) : w'.ownsRow base t size v n L := by
  refine h.kept hg ?_
  cases hb : v.ownBlock with
  | none => exact .inl rfl
  | some g =>
    refine .inr (fun e => ?_)
    obtain ⟨cur, hc⟩ := own_blk h hb
    obtain ⟨cur', tt, hc', hne⟩ := ho g e.symm
    exact hne (typed_ne hc' hc)
theorem other_box {w : World} {M : Nat} {cs : Array Value} {tt t : TypeId} (h : w.heap[M]? = some (.cells cs tt (0, 0))) (hne : tt ≠ t) : Other w (some M) t := fun g e => by
  obtain rfl := Option.some.inj e; exact ⟨cs, tt, h, hne⟩
theorem only_set (w : World) (M o : Nat) (v : Value) : w.grownBy (w.setCell ⟨M, o, none⟩ v) (some M) :=
  ⟨rfl, rfl, rfl, by simp [World.setCell], fun k _ hk => Below.heap_setCell w ⟨M, o, none⟩ v k (by simp only; intro e; exact hk (by rw [e]))⟩
end Go.Proofs.Ytbpilecgnfnndaa

/- Plain words shared by the proofs of this seat: what a datum of scalars, structs and slices looks like in memory; small closing lemmas. -/
import Derived.Test.YtbgejldjgkihaaaRows
import Derived.WalkKit
import Derived.ProofKit
import Derived.OpenShut
import Derived.ShutString
import Derived.ChangeOld
import Derived.Below
import Derived.WalkLawsBesides
import Derived.WalkSpells
import Derived.Lib.Hide
import Derived.Deep.QuietTactic
import Derived.BigQuiet
import Derived.Deep.RegionHeld3
namespace Go.Proofs.Ytbgejldjgkihaaa
set_option linter.unusedSimpArgs false
set_option linter.unusedVariables false
open Go.ChangeShapes Go.WideShapes Go.ChangeAt Go.RowKit

theorem own : ownKnob Try.prog.godebug = none := by kernel_rfl
theorem laidOut : laidOutB Try.prog = true := by kernel_rfl

/-! ### the shape of a type, flattened into cells -/
inductive CK where
  | int (k : IntKind)
  | bool
  | str
  | sl (es : List CK)

def flatFs (r : TypeId → Option (List CK)) (P : Program) : List Field → Nat → Option (List CK)
  | [], _ => some []
  | f :: fs, o =>
    if f.offset = o then
      match r f.type with
      | some ks => if P.cellsOf f.type = ks.length then (flatFs r P fs (o + ks.length)).map fun l => ks ++ l else none
      | none => none
    else none

def flat (P : Program) : Nat → TypeId → Option (List CK)
  | 0, _ => none
  | n + 1, t =>
    match P.underlying t with
    | some .bool => some [.bool]
    | some (.int k) => some [.int k]
    | some .string => some [.str]
    | some (.slice e) => match flat P n e with
      | some es => if P.cellsOf e = es.length then some [.sl es] else none
      | none => none
    | some (.struct fs) => flatFs (flat P n) P fs.toList 0
    | _ => none

/-- What a cell of a kind holds. -/
def CK.ok (w : World) : Nat → CK → Value → Prop
  | 0, _, _ => True
  | _ + 1, .int k, v => ∃ m, v = .int k m ∧ (Lit.int k m).wf = true
  | _ + 1, .bool, v => ∃ b, v = .bool b
  | _ + 1, .str, v => ∃ s, v = .string s ∧ s.size ≤ maxLen
  | n + 1, .sl es, v => v = .slice none 0 0 ∨ ∃ (a : Addr) (len cap : Nat), v = .slice (some a) len cap ∧ len ≤ cap ∧ cap ≤ maxLen ∧
      ∀ i, i < len → ∃ cs : List Value, w.cells? 0 (a.add (i * es.length)) es.length = some cs ∧ ∀ (j : Nat) (ck : CK), es[j]? = some ck → ∃ x, cs[j]? = some x ∧ ck.ok w n x

theorem flat_fields {H : Type} {enc : TypeId × Value → H} {P : Program} {w : World} {sp : Nat → Bool} {n : Nat} {m : Nat} {cs : List Value}
    (ih : ∀ (t : TypeId) (ks : List CK) (cs : List Value) (x : DataW H × List MemPlace), flat P n t = some ks → P.cellsOf t = ks.length → DataW.trod enc P w 0 sp true m t cs = some x →
      ∀ (j : Nat) (ck : CK), ks[j]? = some ck → ∃ v, cs[j]? = some v ∧ ∀ N, ck.ok w N v) :
    ∀ (fs : List Field) (o : Nat) (ks : List CK), flatFs (flat P n) P fs o = some ks →
      (∀ f ∈ fs, ∃ x, DataW.trod enc P w 0 sp true m f.type ((cs.drop f.offset).take (P.cellsOf f.type)) = some x) →
      ∀ (j : Nat) (ck : CK), ks[j]? = some ck → ∃ v, cs[o + j]? = some v ∧ ∀ N, ck.ok w N v := by
  intro fs
  induction fs with
  | nil => intro o ks hk _ j ck hj; simp [flatFs] at hk; subst hk; simp at hj
  | cons f fs ihf =>
    intro o ks hk hf j ck hj
    unfold flatFs at hk
    split at hk
    · rename_i ho
      split at hk
      · rename_i k1 hk1
        split at hk
        · rename_i hc
          simp only [Option.map_eq_some_iff] at hk
          obtain ⟨l, hl, rfl⟩ := hk
          by_cases hlt : j < k1.length
          · rw [List.getElem?_append_left hlt] at hj
            obtain ⟨x, hx⟩ := hf f (by simp)
            obtain ⟨v, hv, hok⟩ := ih _ _ _ _ hk1 hc hx j ck hj
            refine ⟨v, ?_, hok⟩
            rw [List.getElem?_take] at hv
            split at hv
            · rw [List.getElem?_drop, ho] at hv; exact hv
            · simp at hv
          · rw [List.getElem?_append_right (by omega)] at hj
            obtain ⟨v, hv, hok⟩ := ihf _ _ hl (fun g hg => hf g (by simp [hg])) _ _ hj
            refine ⟨v, ?_, hok⟩
            rw [show o + j = o + k1.length + (j - k1.length) by omega]
            exact hv
        · simp at hk
      · simp at hk
    · simp at hk

/-- What reads as a datum of a flat type holds, cell by cell, what its kinds say. (The length is asked of the type's own size.) -/
theorem flat_open {H : Type} {enc : TypeId × Value → H} {P : Program} {w : World} {sp : Nat → Bool} : ∀ (n : Nat) (m : Nat) (t : TypeId) (ks : List CK) (cs : List Value) (x : DataW H × List MemPlace),
    flat P n t = some ks → P.cellsOf t = ks.length → DataW.trod enc P w 0 sp true m t cs = some x →
      ∀ (j : Nat) (ck : CK), ks[j]? = some ck → ∃ v, cs[j]? = some v ∧ ∀ N, ck.ok w N v := by
  intro n
  induction n with
  | zero => intro m t ks cs x hk; simp [flat] at hk
  | succ n ih =>
    intro m t ks cs x hk hc h j ck hj
    unfold flat at hk
    split at hk
    · rename_i ht
      simp only [Option.some.injEq] at hk; subst hk
      obtain ⟨b, rfl, _⟩ := DataW.trod_bool ht h
      cases j with
      | zero => simp at hj; subst hj; exact ⟨_, rfl, fun N => by cases N with | zero => trivial | succ N => exact ⟨b, rfl⟩⟩
      | succ j => simp at hj
    · rename_i k ht
      simp only [Option.some.injEq] at hk; subst hk
      obtain ⟨b, rfl, _, hw⟩ := DataW.trod_int ht h
      cases j with
      | zero => simp at hj; subst hj; exact ⟨_, rfl, fun N => by cases N with | zero => trivial | succ N => exact ⟨b, rfl, hw⟩⟩
      | succ j => simp at hj
    · rename_i ht
      simp only [Option.some.injEq] at hk; subst hk
      obtain ⟨b, rfl, _, hw⟩ := DataW.trod_string ht h
      cases j with
      | zero => simp at hj; subst hj; exact ⟨_, rfl, fun N => by cases N with | zero => trivial | succ N => exact ⟨b, rfl, hw⟩⟩
      | succ j => simp at hj
    · rename_i e ht
      split at hk
      · rename_i es hes
        split at hk
        · rename_i hce
          simp only [Option.some.injEq] at hk; subst hk
          cases j with
          | succ j => simp at hj
          | zero =>
            simp at hj; subst hj
            rcases DataW.trod_slice ht h with ⟨rfl, _⟩ | ⟨a, len, cap, elems, rest, m', _, rfl, _, _, hl, hm, hlen, hel, _⟩
            · exact ⟨_, rfl, fun N => by cases N with | zero => trivial | succ N => exact .inl rfl⟩
            · refine ⟨_, rfl, fun N => ?_⟩
              cases N with
              | zero => trivial
              | succ N =>
              refine .inr ⟨a, len, cap, rfl, hl, hm, fun i hi => ?_⟩
              have h1 := hel i hi
              rw [List.getElem?_eq_getElem (by omega)] at h1
              rw [Option.bind_eq_some_iff] at h1
              obtain ⟨cs', h2, h3⟩ := h1
              rw [hce] at h2
              exact ⟨cs', h2, fun j ck hj => let ⟨x, hx, hk⟩ := ih _ _ _ _ _ hes hce h3 j ck hj; ⟨x, hx, hk N⟩⟩
        · simp at hk
      · simp at hk
    · rename_i fs ht
      obtain ⟨xs, m', _, _, hlen, hxs, hf⟩ := DataW.trod_struct ht h
      have := flat_fields (cs := cs) (ih m') fs.toList 0 ks hk (fun f hfm => by
        obtain ⟨i, hi, rfl⟩ := List.getElem_of_mem hfm
        have h1 := hf i fs.toList[i] (by simp at hi ⊢)
        rw [List.getElem?_eq_getElem (by simp at hi; omega)] at h1
        exact ⟨_, h1⟩) j ck hj
      simpa using this
    · simp at hk

theorem bcell {B : Nat} {W w1 : World} (hb : Below B W w1) : (∀ b o, b < B → w1.cell? ⟨b, o, none⟩ = W.cell? ⟨b, o, none⟩) ∧ (∀ b o, b < B → w1.frozen? ⟨b, o, none⟩ = W.frozen? ⟨b, o, none⟩) :=
  ⟨fun b o h => hb.cell (p := ⟨b, o, none⟩) h, fun b o h => hb.frozen (p := ⟨b, o, none⟩) h⟩

/-! ### a region that draws its order: its operations read, its callees make memory but write nothing that was there -/
section
open Classical in
/-- A world that is w as far as w goes: x where x is such a world, else w. -/
noncomputable def World.ext (w x : World) : World := if Below w.heap.size w x then x else w
theorem World.ext_below (w x : World) : Below w.heap.size w (World.ext w x) := by
  unfold World.ext; split
  · assumption
  · exact Below.refl _ _
theorem World.ext_of {w x : World} (h : Below w.heap.size w x) : x = World.ext w x := by unfold World.ext; rw [if_pos h]
@[go_sem] theorem World.cell?_ext (w x : World) (b o : Nat) (h : b < w.heap.size) : (World.ext w x).cell? ⟨b, o, none⟩ = w.cell? ⟨b, o, none⟩ := (World.ext_below w x).cell h
@[go_sem] theorem World.frozen?_ext (w x : World) (b o : Nat) (h : b < w.heap.size) : (World.ext w x).frozen? ⟨b, o, none⟩ = w.frozen? ⟨b, o, none⟩ := (World.ext_below w x).frozen h
theorem Calls.ext_of {P : Program} {f : FuncId} {args : Array Value} {w x : World} {v : Value}
    (h : Calls P f args (World.ext w x) fun e w' => e = .returned v ∧ Below (World.ext w x).heap.size (World.ext w x) w') : Calls P f args (World.ext w x) fun e w'' => e = .returned v ∧ ∃ y, w'' = World.ext w y :=
  h.mono fun _ w' ⟨he, hb⟩ => ⟨he, w', World.ext_of ((World.ext_below w x).trans (hb.mono (World.ext_below w x).size))⟩
theorem Calls.ext_of_same {P : Program} {f : FuncId} {args : Array Value} {w x : World} {v : Value}
    (h : Calls P f args (World.ext w x) fun e w' => e = .returned v ∧ World.ext w x = w') : Calls P f args (World.ext w x) fun e w'' => e = .returned v ∧ ∃ y, w'' = World.ext w y :=
  h.mono fun _ w' ⟨he, hb⟩ => ⟨he, x, hb.symm⟩
theorem wp_region_ext {P : Program} {id : Nat} {Q : Exit → Act → World → Prop} {a : Act} {w : World} {l : List Oper} (hm : P.follows .mixedOrders = true) (hB : Region.lexB .any l.toArray = true)
    (h : wpQuiet P l.toArray (fun w' => ∃ x, w' = World.ext w x) (fun a' => ∀ w', Below w.heap.size w w' → Q .normal a' w') l a) : (Code.region id l.toArray true).wp P Q a w := by
  refine wp_region_quiet (C := fun w' => ∃ x, w' = World.ext w x) hm hB ⟨w.drew, World.ext_of (Below.refl _ _).drew⟩ ?_
  have e : (fun a' : Act => ∀ w', Below w.heap.size w w' → Q .normal a' w') = fun a' : Act => ∀ w', (∃ x, w' = World.ext w x) → Q .normal a' w' := by
    funext a'; apply propext
    exact ⟨fun g w' ⟨x, hx⟩ => g w' (by rw [hx]; exact World.ext_below w x), fun g w' hb => g w' ⟨w', World.ext_of hb⟩⟩
  rw [e] at h
  exact h
end

/-! ### boxes that the call has laid: their cells, said by one rule -/
theorem box_next {w w' : World} {B : Nat} {cs : Array Value} (hb : Below w.heap.size w w') (hB : B < w.heap.size) (k : ∀ i, w.cell? ⟨B, i, none⟩ = cs[i]?) : ∀ i, w'.cell? ⟨B, i, none⟩ = cs[i]? := fun i => (hb.cell (p := ⟨B, i, none⟩) hB).trans (k i)
theorem heap_nth0 (w : World) (o : Obj) : (w.alloc o).heap[w.heap.size]? = some o := heap_alloc_new w o
theorem heap_nth1 (w : World) (o p : Obj) : ((w.alloc o).alloc p).heap[w.heap.size]? = some o := (Below.heap_alloc (w.alloc o) p w.heap.size (by simp)).trans (heap_nth0 w o)
theorem heap_nth2 (w : World) (o p q : Obj) : (((w.alloc o).alloc p).alloc q).heap[w.heap.size]? = some o := (Below.heap_alloc ((w.alloc o).alloc p) q w.heap.size (by simp; omega)).trans (heap_nth1 w o p)
theorem box_cells {w : World} {B : Nat} {cs : Array Value} {t : TypeId} (h : w.heap[B]? = some (.cells cs t (0, 0))) : ∀ i, w.cell? ⟨B, i, none⟩ = cs[i]? := fun i => by simp [World.cell?, h]
section
variable {w w' : World} {cs : Array Value} {t : TypeId} {o p : Obj}
theorem box_new0 (hb : Below (w.alloc (.cells cs t)).heap.size (w.alloc (.cells cs t)) w') : ∀ i, w'.cell? ⟨w.heap.size, i, none⟩ = cs[i]? := box_cells ((hb.block w.heap.size (by simp)).trans (heap_nth0 w _))
theorem box_lt0 (hb : Below (w.alloc (.cells cs t)).heap.size (w.alloc (.cells cs t)) w') : w.heap.size < w'.heap.size := by have := hb.size; simp at this; omega
theorem box_new1 (hb : Below ((w.alloc (.cells cs t)).alloc o).heap.size ((w.alloc (.cells cs t)).alloc o) w') : ∀ i, w'.cell? ⟨w.heap.size, i, none⟩ = cs[i]? := box_cells ((hb.block w.heap.size (by simp; omega)).trans (heap_nth1 w _ o))
theorem box_lt1 (hb : Below ((w.alloc (.cells cs t)).alloc o).heap.size ((w.alloc (.cells cs t)).alloc o) w') : w.heap.size < w'.heap.size := by have := hb.size; simp at this; omega
theorem box_new2 (hb : Below (((w.alloc (.cells cs t)).alloc o).alloc p).heap.size (((w.alloc (.cells cs t)).alloc o).alloc p) w') : ∀ i, w'.cell? ⟨w.heap.size, i, none⟩ = cs[i]? := box_cells ((hb.block w.heap.size (by simp; omega)).trans (heap_nth2 w _ o p))
theorem box_lt2 (hb : Below (((w.alloc (.cells cs t)).alloc o).alloc p).heap.size (((w.alloc (.cells cs t)).alloc o).alloc p) w') : w.heap.size < w'.heap.size := by have := hb.size; simp at this; omega
end
section
variable {W w w' : World} {B1 B2 B3 B4 B5 : Nat} {c1 c2 c3 c4 c5 : Array Value}
theorem held_last1 (h : (∀ i, w.cell? ⟨B1, i, none⟩ = c1[i]?) ∧ Below W.heap.size W w) : Below W.heap.size W w := h.2
theorem held_next1 (h : (∀ i, w.cell? ⟨B1, i, none⟩ = c1[i]?) ∧ Below W.heap.size W w) (hb : Below w.heap.size w w') (h1 : B1 < w.heap.size) : (∀ i, w'.cell? ⟨B1, i, none⟩ = c1[i]?) ∧ Below W.heap.size W w' :=
  ⟨box_next hb h1 h.1, h.2.trans (hb.mono h.2.size)⟩
theorem held_last2 (h : (∀ i, w.cell? ⟨B1, i, none⟩ = c1[i]?) ∧ (∀ i, w.cell? ⟨B2, i, none⟩ = c2[i]?) ∧ Below W.heap.size W w) : Below W.heap.size W w := h.2.2
theorem held_next2 (h : (∀ i, w.cell? ⟨B1, i, none⟩ = c1[i]?) ∧ (∀ i, w.cell? ⟨B2, i, none⟩ = c2[i]?) ∧ Below W.heap.size W w) (hb : Below w.heap.size w w') (h1 : B1 < w.heap.size) (h2 : B2 < w.heap.size) : (∀ i, w'.cell? ⟨B1, i, none⟩ = c1[i]?) ∧ (∀ i, w'.cell? ⟨B2, i, none⟩ = c2[i]?) ∧ Below W.heap.size W w' :=
  ⟨box_next hb h1 h.1, box_next hb h2 h.2.1, h.2.2.trans (hb.mono h.2.2.size)⟩
theorem held_last3 (h : (∀ i, w.cell? ⟨B1, i, none⟩ = c1[i]?) ∧ (∀ i, w.cell? ⟨B2, i, none⟩ = c2[i]?) ∧ (∀ i, w.cell? ⟨B3, i, none⟩ = c3[i]?) ∧ Below W.heap.size W w) : Below W.heap.size W w := h.2.2.2
theorem held_next3 (h : (∀ i, w.cell? ⟨B1, i, none⟩ = c1[i]?) ∧ (∀ i, w.cell? ⟨B2, i, none⟩ = c2[i]?) ∧ (∀ i, w.cell? ⟨B3, i, none⟩ = c3[i]?) ∧ Below W.heap.size W w) (hb : Below w.heap.size w w') (h1 : B1 < w.heap.size) (h2 : B2 < w.heap.size) (h3 : B3 < w.heap.size) : (∀ i, w'.cell? ⟨B1, i, none⟩ = c1[i]?) ∧ (∀ i, w'.cell? ⟨B2, i, none⟩ = c2[i]?) ∧ (∀ i, w'.cell? ⟨B3, i, none⟩ = c3[i]?) ∧ Below W.heap.size W w' :=
  ⟨box_next hb h1 h.1, box_next hb h2 h.2.1, box_next hb h3 h.2.2.1, h.2.2.2.trans (hb.mono h.2.2.2.size)⟩
theorem held_last4 (h : (∀ i, w.cell? ⟨B1, i, none⟩ = c1[i]?) ∧ (∀ i, w.cell? ⟨B2, i, none⟩ = c2[i]?) ∧ (∀ i, w.cell? ⟨B3, i, none⟩ = c3[i]?) ∧ (∀ i, w.cell? ⟨B4, i, none⟩ = c4[i]?) ∧ Below W.heap.size W w) : Below W.heap.size W w := h.2.2.2.2
theorem held_next4 (h : (∀ i, w.cell? ⟨B1, i, none⟩ = c1[i]?) ∧ (∀ i, w.cell? ⟨B2, i, none⟩ = c2[i]?) ∧ (∀ i, w.cell? ⟨B3, i, none⟩ = c3[i]?) ∧ (∀ i, w.cell? ⟨B4, i, none⟩ = c4[i]?) ∧ Below W.heap.size W w) (hb : Below w.heap.size w w') (h1 : B1 < w.heap.size) (h2 : B2 < w.heap.size) (h3 : B3 < w.heap.size) (h4 : B4 < w.heap.size) : (∀ i, w'.cell? ⟨B1, i, none⟩ = c1[i]?) ∧ (∀ i, w'.cell? ⟨B2, i, none⟩ = c2[i]?) ∧ (∀ i, w'.cell? ⟨B3, i, none⟩ = c3[i]?) ∧ (∀ i, w'.cell? ⟨B4, i, none⟩ = c4[i]?) ∧ Below W.heap.size W w' :=
  ⟨box_next hb h1 h.1, box_next hb h2 h.2.1, box_next hb h3 h.2.2.1, box_next hb h4 h.2.2.2.1, h.2.2.2.2.trans (hb.mono h.2.2.2.2.size)⟩
theorem held_last5 (h : (∀ i, w.cell? ⟨B1, i, none⟩ = c1[i]?) ∧ (∀ i, w.cell? ⟨B2, i, none⟩ = c2[i]?) ∧ (∀ i, w.cell? ⟨B3, i, none⟩ = c3[i]?) ∧ (∀ i, w.cell? ⟨B4, i, none⟩ = c4[i]?) ∧ (∀ i, w.cell? ⟨B5, i, none⟩ = c5[i]?) ∧ Below W.heap.size W w) : Below W.heap.size W w := h.2.2.2.2.2
theorem held_next5 (h : (∀ i, w.cell? ⟨B1, i, none⟩ = c1[i]?) ∧ (∀ i, w.cell? ⟨B2, i, none⟩ = c2[i]?) ∧ (∀ i, w.cell? ⟨B3, i, none⟩ = c3[i]?) ∧ (∀ i, w.cell? ⟨B4, i, none⟩ = c4[i]?) ∧ (∀ i, w.cell? ⟨B5, i, none⟩ = c5[i]?) ∧ Below W.heap.size W w) (hb : Below w.heap.size w w') (h1 : B1 < w.heap.size) (h2 : B2 < w.heap.size) (h3 : B3 < w.heap.size) (h4 : B4 < w.heap.size) (h5 : B5 < w.heap.size) : (∀ i, w'.cell? ⟨B1, i, none⟩ = c1[i]?) ∧ (∀ i, w'.cell? ⟨B2, i, none⟩ = c2[i]?) ∧ (∀ i, w'.cell? ⟨B3, i, none⟩ = c3[i]?) ∧ (∀ i, w'.cell? ⟨B4, i, none⟩ = c4[i]?) ∧ (∀ i, w'.cell? ⟨B5, i, none⟩ = c5[i]?) ∧ Below W.heap.size W w' :=
  ⟨box_next hb h1 h.1, box_next hb h2 h.2.1, box_next hb h3 h.2.2.1, box_next hb h4 h.2.2.2.1, box_next hb h5 h.2.2.2.2.1, h.2.2.2.2.2.trans (hb.mono h.2.2.2.2.2.size)⟩
end

theorem bodyPost_world {P : Program} {F : Func} {Q : Ending → World → Prop} {x : Exit} {a : Act} {w : World} (h : ∀ W, W = w → bodyPost P F Q x a W) : bodyPost P F Q x a w := h w rfl

/-! ### a block that is written cell by cell -/
theorem hset_same {w : World} {b o : Nat} {v : Value} {cs cs' : Array Value} {t : TypeId} (h : w.heap[b]? = some (.cells cs t (0, 0))) (e : cs.setIfInBounds o v = cs') : (w.setCell ⟨b, o, none⟩ v).heap[b]? = some (.cells cs' t (0, 0)) := by
  rw [← e]; exact heap_setCell_same w b o cs t v h
theorem hset_set {w : World} {b o : Nat} {v : Value} {cs : Array Value} {t : TypeId} (h : w.heap[b]? = some (.cells cs t (0, 0))) : (w.setCell ⟨b, o, none⟩ v).heap[b]? = some (.cells (cs.setIfInBounds o v) t (0, 0)) := heap_setCell_same w b o cs t v h
theorem hset_eq {w : World} {b : Nat} {cs cs' : Array Value} {t : TypeId} (h : w.heap[b]? = some (.cells cs t (0, 0))) (e : cs = cs') : w.heap[b]? = some (.cells cs' t (0, 0)) := by rw [← e]; exact h
theorem hset_other {w : World} {p : Addr} {k : Nat} {v : Value} {o : Obj} (h : w.heap[k]? = some o) (hk : k ≠ p.block) : (w.setCell p v).heap[k]? = some o := by
  rw [heap_setCell_other w p k v hk]; exact h
theorem hset_alloc {w : World} {k : Nat} {o x : Obj} (h : w.heap[k]? = some x) : (w.alloc o).heap[k]? = some x := by
  have hk : k < w.heap.size := by
    rcases Nat.lt_or_ge k w.heap.size with h1 | h1
    · exact h1
    · rw [Array.getElem?_eq_none h1] at h; simp at h
  rw [Below.heap_alloc w o k hk]; exact h
theorem hset_new {w : World} {k : Nat} {o : Obj} (h : k = w.heap.size) : (w.alloc o).heap[k]? = some o := by rw [h]; exact heap_alloc_new w o
theorem hset_drew {w : World} {k : Nat} {x : Obj} (h : w.heap[k]? = some x) : w.drew.heap[k]? = some x := h
theorem hset_row {w : World} {b : Nat} {cs cs' : Array Value} {t : TypeId} (h : w.heap[b]? = some (.cells cs t (0, 0))) : (w.setRow b cs').heap[b]? = some (.cells cs' t (0, 0)) := setRow_heap w b cs cs' t (0, 0) h
theorem hset_row_other {w : World} {b k : Nat} {cs : Array Value} {x : Obj} (h : w.heap[k]? = some x) (hk : k ≠ b) : (w.setRow b cs).heap[k]? = some x := by rw [setRow_other w b k cs hk]; exact h
theorem box_frozen {w : World} {B : Nat} {cs : Array Value} {t : TypeId} (h : w.heap[B]? = some (.cells cs t (0, 0))) : ∀ i, w.frozen? ⟨B, i, none⟩ = false := fun i => by simp [World.frozen?, h]
theorem box_lt {w : World} {B : Nat} {o : Obj} (h : w.heap[B]? = some o) : B < w.heap.size := by
  rcases Nat.lt_or_ge B w.heap.size with h1 | h1
  · exact h1
  · rw [Array.getElem?_eq_none h1] at h; simp at h
@[simp] theorem size_setRow (w : World) (b : Nat) (cs : Array Value) : (w.setRow b cs).heap.size = w.heap.size := by simp [World.setRow]
theorem below_setRow {B b : Nat} {w0 w : World} (hb : Below B w0 w) (h : B ≤ b) (cs : Array Value) : Below B w0 (w.setRow b cs) :=
  hb.trans ⟨rfl, rfl, rfl, by simp [World.setRow], fun k hk => setRow_other w b k cs (by omega)⟩

theorem ret_bool {a b : Bool} (h : a = b) : Ending.returned (.bool a) = .returned (.bool b) := by rw [h]
theorem ret_int {k : IntKind} {a b : Int} (h : a = b) : Ending.returned (.int k a) = .returned (.int k b) := by rw [h]
theorem ret_str {a b : ByteArray} (h : a = b) : Ending.returned (.string a) = .returned (.string b) := by rw [h]

/-! ### plain data -/
structure Ev where
  kind : Int
  field : Int
  bits : Int
  len : Int
  text : ByteArray
  code : Int
  at_ : Int
  deriving DecidableEq
@[reducible] def Ev.cs (e : Ev) : List Value := [.int .i64 e.kind, .int .i64 e.field, .int .u64 e.bits, .int .i64 e.len, .string e.text, .int .i64 e.code, .int .i64 e.at_]
@[reducible] def Ev.val (e : Ev) : Value := .agg #[.int .i64 e.kind, .int .i64 e.field, .int .u64 e.bits, .int .i64 e.len, .string e.text, .int .i64 e.code, .int .i64 e.at_]
def W64 (n : Int) : Prop := (Lit.int .i64 n).wf = true
def WU64 (n : Int) : Prop := (Lit.int .u64 n).wf = true
structure Ev.ok (e : Ev) : Prop where
  kind : W64 e.kind
  field : W64 e.field
  bits : WU64 e.bits
  len : W64 e.len
  text : e.text.size ≤ maxLen
  code : W64 e.code
  at_ : W64 e.at_
theorem W64.lo {n : Int} (h : W64 n) : -9223372036854775808 ≤ n ∧ n ≤ 9223372036854775807 := by
  unfold W64 at h; simpa [Lit.wf, IntKind.min, IntKind.max, IntKind.signed, IntKind.bits] using h
theorem WU64.lo {n : Int} (h : WU64 n) : 0 ≤ n ∧ n ≤ 18446744073709551615 := by
  unfold WU64 at h; simpa [Lit.wf, IntKind.min, IntKind.max, IntKind.signed, IntKind.bits] using h

structure Fld where
  number : Int
  kind : Int
  rep : Bool
  packed : Bool
  msg : Int
  deriving DecidableEq
@[reducible] def Fld.cs (f : Fld) : List Value := [.int .i64 f.number, .int .i64 f.kind, .bool f.rep, .bool f.packed, .int .i64 f.msg]
@[reducible] def Fld.val (f : Fld) : Value := .agg #[.int .i64 f.number, .int .i64 f.kind, .bool f.rep, .bool f.packed, .int .i64 f.msg]
structure Fld.ok (f : Fld) : Prop where
  number : W64 f.number
  kind : W64 f.kind
  msg : W64 f.msg

theorem beq_bytes (a b : ByteArray) : (a.toList == b.toList) = decide (a = b) := by
  rw [Bool.eq_iff_iff]
  simp only [beq_iff_eq, decide_eq_true_eq, ByteArray.toList_eq]
  constructor
  · intro h
    obtain ⟨⟨x⟩⟩ := a
    obtain ⟨⟨y⟩⟩ := b
    simp at h
    rw [h]
  · rintro rfl; rfl

/-! ### opening an argument -/
section
variable {H : Type} {enc : TypeId × Value → H} {P : Program} {W : World} {base : Nat} {sp : Nat → Bool} {t : TypeId} {v : Value} {d : DataW H} {ps : List MemPlace}

theorem agg_of_okWide {fs : Array Field} (ht : P.underlying t = some (.struct fs)) (h : Value.okWide P W .any base t v) : ∃ cs, v = .agg cs ∧ cs.size = P.cellsOf t := by
  unfold Value.okWide at h
  rw [ht] at h
  obtain ⟨cs, h1, h2, _⟩ := h
  exact ⟨cs, h1, h2⟩

theorem flat_trod {ks : List CK} (hk : flat P 9 t = some ks) (hc : P.cellsOf t = ks.length) (h : DataW.Trod enc P W 0 sp true t v d ps) :
    ∀ (j : Nat) (ck : CK), ks[j]? = some ck → ∃ x, v.cells.toList[j]? = some x ∧ ∀ N, ck.ok W N x := by
  obtain ⟨m, hm⟩ := h
  exact flat_open 9 m t ks _ _ hk hc hm

theorem ok_int {w : World} {k : IntKind} {v : Value} (h : (CK.int k).ok w 1 v) : ∃ m, v = .int k m ∧ (Lit.int k m).wf = true := h
theorem ok_bool {w : World} {v : Value} (h : CK.bool.ok w 1 v) : ∃ b, v = .bool b := h
theorem ok_str {w : World} {v : Value} (h : CK.str.ok w 1 v) : ∃ s, v = .string s ∧ s.size ≤ maxLen := h

theorem openInt {k : IntKind} (ht : P.underlying t = some (.int k)) (hv : Value.okWide P W .any base t v) (h : DataW.Trod enc P W 0 sp true t v d ps) : ∃ n, v = .int k n ∧ (Lit.int k n).wf = true := by
  obtain ⟨x, rfl, _, _, hw⟩ := open_int ht hv h
  exact ⟨x, rfl, hw⟩

theorem openStr (ht : P.underlying t = some .string) (hv : Value.okWide P W .any base t v) (h : DataW.Trod enc P W 0 sp true t v d ps) : ∃ s, v = .string s ∧ s.size ≤ maxLen := by
  obtain ⟨x, rfl, _, _, hw⟩ := Go.ChangeMaps.open_string ht hv h
  exact ⟨x, rfl, hw⟩

/-- The seven cells of an event, out of what stands at each place. -/
theorem ev_of_cells {w : World} {cs : List Value} (hl : cs.length = 7) (h : ∀ (j : Nat) (ck : CK), [CK.int .i64, .int .i64, .int .u64, .int .i64, .str, .int .i64, .int .i64][j]? = some ck → ∃ x, cs[j]? = some x ∧ ck.ok w 1 x) :
    ∃ e : Ev, cs = e.cs ∧ e.ok := by
  match cs, hl with
  | [c0, c1, c2, c3, c4, c5, c6], _ =>
    obtain ⟨x0, e0, h0⟩ := h 0 _ rfl
    obtain ⟨x1, e1, h1⟩ := h 1 _ rfl
    obtain ⟨x2, e2, h2⟩ := h 2 _ rfl
    obtain ⟨x3, e3, h3⟩ := h 3 _ rfl
    obtain ⟨x4, e4, h4⟩ := h 4 _ rfl
    obtain ⟨x5, e5, h5⟩ := h 5 _ rfl
    obtain ⟨x6, e6, h6⟩ := h 6 _ rfl
    obtain ⟨n0, rfl, w0⟩ := ok_int h0
    obtain ⟨n1, rfl, w1⟩ := ok_int h1
    obtain ⟨n2, rfl, w2⟩ := ok_int h2
    obtain ⟨n3, rfl, w3⟩ := ok_int h3
    obtain ⟨n4, rfl, w4⟩ := ok_str h4
    obtain ⟨n5, rfl, w5⟩ := ok_int h5
    obtain ⟨n6, rfl, w6⟩ := ok_int h6
    simp at e0 e1 e2 e3 e4 e5 e6
    exact ⟨⟨n0, n1, n2, n3, n4, n5, n6⟩, by simp [Ev.cs, e0, e1, e2, e3, e4, e5, e6], ⟨w0, w1, w2, w3, w4, w5, w6⟩⟩

theorem fld_of_cells {w : World} {cs : List Value} (hl : cs.length = 5) (h : ∀ (j : Nat) (ck : CK), [CK.int .i64, .int .i64, .bool, .bool, .int .i64][j]? = some ck → ∃ x, cs[j]? = some x ∧ ck.ok w 1 x) :
    ∃ e : Fld, cs = e.cs ∧ e.ok := by
  match cs, hl with
  | [c0, c1, c2, c3, c4], _ =>
    obtain ⟨x0, e0, h0⟩ := h 0 _ rfl
    obtain ⟨x1, e1, h1⟩ := h 1 _ rfl
    obtain ⟨x2, e2, h2⟩ := h 2 _ rfl
    obtain ⟨x3, e3, h3⟩ := h 3 _ rfl
    obtain ⟨x4, e4, h4⟩ := h 4 _ rfl
    obtain ⟨n0, rfl, w0⟩ := ok_int h0
    obtain ⟨n1, rfl, w1⟩ := ok_int h1
    obtain ⟨n2, rfl⟩ := ok_bool h2
    obtain ⟨n3, rfl⟩ := ok_bool h3
    obtain ⟨n4, rfl, w4⟩ := ok_int h4
    simp at e0 e1 e2 e3 e4
    exact ⟨⟨n0, n1, n2, n3, n4⟩, by simp [Fld.cs, e0, e1, e2, e3, e4], ⟨w0, w1, w4⟩⟩
end

section
variable {H : Type} {enc : TypeId × Value → H} {W : World} {base : Nat} {sp : Nat → Bool} {v : Value} {d : DataW H} {ps : List MemPlace}
end
end Go.Proofs.Ytbgejldjgkihaaa

/- Texts that FnCompiled leans on, part 1. (Put together by wip/tools/bundle.py.) -/
import Derived.Test.YtbpilecgnfnndaaRows
import Derived.WalkKit
import Derived.ProofKit
import Derived.OpenShut
import Derived.ShutString
import Derived.ChangeOld
import Derived.Below
import Derived.WalkLawsBesides
import Derived.WalkSpells
import Derived.Lib.Hide
import Derived.Deep.QuietTactic
import Derived.BigQuiet
import Derived.Deep.RegionHeld3
import Derived.Lib.SmallJoins
import Derived.Laws.IdiomStrings
import Derived.Maps.AppendAt
import Derived.Laws.AppendOwnNone
import Derived.Deep.AppendLies
import Derived.Laws.Tables
namespace Go.Proofs.Ytbpilecgnfnndaa
set_option linter.unusedSimpArgs false
set_option linter.unusedVariables false
open Go.ChangeShapes Go.WideShapes Go.ChangeAt Go.RowKit
theorem own : ownKnob Try.prog.godebug = none := by kernel_rfl
theorem laidOut : laidOutB Try.prog = true := by kernel_rfl
inductive CK where
  | int (k : IntKind)
  | bool
  | str
  | sl (es : List CK)
def flatFs (r : TypeId → Option (List CK)) (P : Program) : List Field → Nat → Option (List CK)
  | [], _ => some []
  | f :: fs, o =>
    if f.offset = o then
      match r f.type with
      | some ks => if P.cellsOf f.type = ks.length then (flatFs r P fs (o + ks.length)).map fun l => ks ++ l else none
      | none => none
    else none
def flat (P : Program) : Nat → TypeId → Option (List CK)
  | 0, _ => none
  | n + 1, t =>
    match P.underlying t with
    | some .bool => some [.bool]
    | some (.int k) => some [.int k]
    | some .string => some [.str]
    | some (.slice e) => match flat P n e with
      | some es => if P.cellsOf e = es.length then some [.sl es] else none
      | none => none
    | some (.struct fs) => flatFs (flat P n) P fs.toList 0
    | _ => none
def CK.ok (w : World) : Nat → CK → Value → Prop
  | 0, _, _ => True
  | _ + 1, .int k, v => ∃ m, v = .int k m ∧ (Lit.int k m).wf = true
  | _ + 1, .bool, v => ∃ b, v = .bool b
  | _ + 1, .str, v => ∃ s, v = .string s ∧ s.size ≤ maxLen
  | n + 1, .sl es, v => v = .slice none 0 0 ∨ ∃ (a : Addr) (len cap : Nat), v = .slice (some a) len cap ∧ len ≤ cap ∧ cap ≤ maxLen ∧
      ∀ i, i < len → ∃ cs : List Value, w.cells? 0 (a.add (i * es.length)) es.length = some cs ∧ ∀ (j : Nat) (ck : CK), es[j]? = some ck → ∃ x, cs[j]? = some x ∧ ck.ok w n x
theorem flat_fields {H : Type} {enc : TypeId × Value → H} {P : Program} {w : World} {sp : Nat → Bool} {n : Nat} {m : Nat} {cs : List Value}
    (ih : ∀ (t : TypeId) (ks : List CK) (cs : List Value) (x : DataW H × List MemPlace), flat P n t = some ks → P.cellsOf t = ks.length → DataW.trod enc P w 0 sp true m t cs = some x →
      ∀ (j : Nat) (ck : CK), ks[j]? = some ck → ∃ v, cs[j]? = some v ∧ ∀ N, ck.ok w N v) :
    ∀ (fs : List Field) (o : Nat) (ks : List CK), flatFs (flat P n) P fs o = some ks →
      (∀ f ∈ fs, ∃ x, DataW.trod enc P w 0 sp true m f.type ((cs.drop f.offset).take (P.cellsOf f.type)) = some x) →
      ∀ (j : Nat) (ck : CK), ks[j]? = some ck → ∃ v, cs[o + j]? = some v ∧ ∀ N, ck.ok w N v := by
  intro fs
  induction fs with
  | nil => intro o ks hk _ j ck hj; simp [flatFs] at hk; subst hk; simp at hj
  | cons f fs ihf =>
    intro o ks hk hf j ck hj
    unfold flatFs at hk
    split at hk
    · rename_i ho
      split at hk
      · rename_i k1 hk1
        split at hk
        · rename_i hc
          simp only [Option.map_eq_some_iff] at hk
          obtain ⟨l, hl, rfl⟩ := hk
          by_cases hlt : j < k1.length
          · rw [List.getElem?_append_left hlt] at hj
            obtain ⟨x, hx⟩ := hf f (by simp)
            obtain ⟨v, hv, hok⟩ := ih _ _ _ _ hk1 hc hx j ck hj
            refine ⟨v, ?_, hok⟩
            rw [List.getElem?_take] at hv
            split at hv
            · rw [List.getElem?_drop, ho] at hv; exact hv
            · simp at hv
          · rw [List.getElem?_append_right (by omega)] at hj
            obtain ⟨v, hv, hok⟩ := ihf _ _ hl (fun g hg => hf g (by simp [hg])) _ _ hj
            refine ⟨v, ?_, hok⟩
            rw [show o + j = o + k1.length + (j - k1.length) by omega]
            exact hv
        · simp at hk
      · simp at hk
    · simp at hk
theorem flat_open {H : Type} {enc : TypeId × Value → H} {P : Program} {w : World} {sp : Nat → Bool} : ∀ (n : Nat) (m : Nat) (t : TypeId) (ks : List CK) (cs : List Value) (x : DataW H × List MemPlace),
    flat P n t = some ks → P.cellsOf t = ks.length → DataW.trod enc P w 0 sp true m t cs = some x →
      ∀ (j : Nat) (ck : CK), ks[j]? = some ck → ∃ v, cs[j]? = some v ∧ ∀ N, ck.ok w N v := by
  intro n
  induction n with
  | zero => intro m t ks cs x hk; simp [flat] at hk
  | succ n ih =>
    intro m t ks cs x hk hc h j ck hj
    unfold flat at hk
    split at hk
    · rename_i ht
      simp only [Option.some.injEq] at hk; subst hk
      obtain ⟨b, rfl, _⟩ := DataW.trod_bool ht h
      cases j with
      | zero => simp at hj; subst hj; exact ⟨_, rfl, fun N => by cases N with | zero => trivial | succ N => exact ⟨b, rfl⟩⟩
      | succ j => simp at hj
    · rename_i k ht
      simp only [Option.some.injEq] at hk; subst hk
      obtain ⟨b, rfl, _, hw⟩ := DataW.trod_int ht h
      cases j with
      | zero => simp at hj; subst hj; exact ⟨_, rfl, fun N => by cases N with | zero => trivial | succ N => exact ⟨b, rfl, hw⟩⟩
      | succ j => simp at hj
    · rename_i ht
      simp only [Option.some.injEq] at hk; subst hk
      obtain ⟨b, rfl, _, hw⟩ := DataW.trod_string ht h
      cases j with
      | zero => simp at hj; subst hj; exact ⟨_, rfl, fun N => by cases N with | zero => trivial | succ N => exact ⟨b, rfl, hw⟩⟩
      | succ j => simp at hj
    · rename_i e ht
      split at hk
      · rename_i es hes
        split at hk
        · rename_i hce
          simp only [Option.some.injEq] at hk; subst hk
          cases j with
          | succ j => simp at hj
          | zero =>
            simp at hj; subst hj
            rcases DataW.trod_slice ht h with ⟨rfl, _⟩ | ⟨a, len, cap, elems, rest, m', _, rfl, _, _, hl, hm, hlen, hel, _⟩
            · exact ⟨_, rfl, fun N => by cases N with | zero => trivial | succ N => exact .inl rfl⟩
            · refine ⟨_, rfl, fun N => ?_⟩
              cases N with
              | zero => trivial
              | succ N =>
              refine .inr ⟨a, len, cap, rfl, hl, hm, fun i hi => ?_⟩
              have h1 := hel i hi
              rw [List.getElem?_eq_getElem (by omega)] at h1
              rw [Option.bind_eq_some_iff] at h1
              obtain ⟨cs', h2, h3⟩ := h1
              rw [hce] at h2
              exact ⟨cs', h2, fun j ck hj => let ⟨x, hx, hk⟩ := ih _ _ _ _ _ hes hce h3 j ck hj; ⟨x, hx, hk N⟩⟩
        · simp at hk
      · simp at hk
    · rename_i fs ht
      obtain ⟨xs, m', _, _, hlen, hxs, hf⟩ := DataW.trod_struct ht h
      have := flat_fields (cs := cs) (ih m') fs.toList 0 ks hk (fun f hfm => by
        obtain ⟨i, hi, rfl⟩ := List.getElem_of_mem hfm
        have h1 := hf i fs.toList[i] (by simp at hi ⊢)
        rw [List.getElem?_eq_getElem (by simp at hi; omega)] at h1
        exact ⟨_, h1⟩) j ck hj
      simpa using this
    · simp at hk
theorem bcell {B : Nat} {W w1 : World} (hb : Below B W w1) : (∀ b o, b < B → w1.cell? ⟨b, o, none⟩ = W.cell? ⟨b, o, none⟩) ∧ (∀ b o, b < B → w1.frozen? ⟨b, o, none⟩ = W.frozen? ⟨b, o, none⟩) :=
  ⟨fun b o h => hb.cell (p := ⟨b, o, none⟩) h, fun b o h => hb.frozen (p := ⟨b, o, none⟩) h⟩
section
open Classical in
noncomputable def World.ext (w x : World) : World := if Below w.heap.size w x then x else w
theorem World.ext_below (w x : World) : Below w.heap.size w (World.ext w x) := by
  unfold World.ext; split
  · assumption
  · exact Below.refl _ _
theorem World.ext_of {w x : World} (h : Below w.heap.size w x) : x = World.ext w x := by unfold World.ext; rw [if_pos h]
@[go_sem] theorem World.cell?_ext (w x : World) (b o : Nat) (h : b < w.heap.size) : (World.ext w x).cell? ⟨b, o, none⟩ = w.cell? ⟨b, o, none⟩ := (World.ext_below w x).cell h
@[go_sem] theorem World.frozen?_ext (w x : World) (b o : Nat) (h : b < w.heap.size) : (World.ext w x).frozen? ⟨b, o, none⟩ = w.frozen? ⟨b, o, none⟩ := (World.ext_below w x).frozen h
theorem Calls.ext_of {P : Program} {f : FuncId} {args : Array Value} {w x : World} {v : Value}
    (h : Calls P f args (World.ext w x) fun e w' => e = .returned v ∧ Below (World.ext w x).heap.size (World.ext w x) w') : Calls P f args (World.ext w x) fun e w'' => e = .returned v ∧ ∃ y, w'' = World.ext w y :=
  h.mono fun _ w' ⟨he, hb⟩ => ⟨he, w', World.ext_of ((World.ext_below w x).trans (hb.mono (World.ext_below w x).size))⟩
theorem Calls.ext_of_same {P : Program} {f : FuncId} {args : Array Value} {w x : World} {v : Value}
    (h : Calls P f args (World.ext w x) fun e w' => e = .returned v ∧ World.ext w x = w') : Calls P f args (World.ext w x) fun e w'' => e = .returned v ∧ ∃ y, w'' = World.ext w y :=
  h.mono fun _ w' ⟨he, hb⟩ => ⟨he, x, hb.symm⟩
theorem wp_region_ext {P : Program} {id : Nat} {Q : Exit → Act → World → Prop} {a : Act} {w : World} {l : List Oper} (hm : P.follows .mixedOrders = true) (hB : Region.lexB .any l.toArray = true)
    (h : wpQuiet P l.toArray (fun w' => ∃ x, w' = World.ext w x) (fun a' => ∀ w', Below w.heap.size w w' → Q .normal a' w') l a) : (Code.region id l.toArray true).wp P Q a w := by
  refine wp_region_quiet (C := fun w' => ∃ x, w' = World.ext w x) hm hB ⟨w.drew, World.ext_of (Below.refl _ _).drew⟩ ?_
  have e : (fun a' : Act => ∀ w', Below w.heap.size w w' → Q .normal a' w') = fun a' : Act => ∀ w', (∃ x, w' = World.ext w x) → Q .normal a' w' := by
    funext a'; apply propext
    exact ⟨fun g w' ⟨x, hx⟩ => g w' (by rw [hx]; exact World.ext_below w x), fun g w' hb => g w' ⟨w', World.ext_of hb⟩⟩
  rw [e] at h
  exact h
end
theorem box_next {w w' : World} {B : Nat} {cs : Array Value} (hb : Below w.heap.size w w') (hB : B < w.heap.size) (k : ∀ i, w.cell? ⟨B, i, none⟩ = cs[i]?) : ∀ i, w'.cell? ⟨B, i, none⟩ = cs[i]? := fun i => (hb.cell (p := ⟨B, i, none⟩) hB).trans (k i)
theorem heap_nth0 (w : World) (o : Obj) : (w.alloc o).heap[w.heap.size]? = some o := heap_alloc_new w o
theorem box_cells {w : World} {B : Nat} {cs : Array Value} {t : TypeId} (h : w.heap[B]? = some (.cells cs t (0, 0))) : ∀ i, w.cell? ⟨B, i, none⟩ = cs[i]? := fun i => by simp [World.cell?, h]
section
variable {w w' : World} {cs : Array Value} {t : TypeId} {o p : Obj}
theorem box_new0 (hb : Below (w.alloc (.cells cs t)).heap.size (w.alloc (.cells cs t)) w') : ∀ i, w'.cell? ⟨w.heap.size, i, none⟩ = cs[i]? := box_cells ((hb.block w.heap.size (by simp)).trans (heap_nth0 w _))
theorem box_lt0 (hb : Below (w.alloc (.cells cs t)).heap.size (w.alloc (.cells cs t)) w') : w.heap.size < w'.heap.size := by have := hb.size; simp at this; omega
end
section
variable {W w w' : World} {B1 B2 B3 B4 B5 : Nat} {c1 c2 c3 c4 c5 : Array Value}
end
theorem hset_same {w : World} {b o : Nat} {v : Value} {cs cs' : Array Value} {t : TypeId} (h : w.heap[b]? = some (.cells cs t (0, 0))) (e : cs.setIfInBounds o v = cs') : (w.setCell ⟨b, o, none⟩ v).heap[b]? = some (.cells cs' t (0, 0)) := by
  rw [← e]; exact heap_setCell_same w b o cs t v h
theorem hset_set {w : World} {b o : Nat} {v : Value} {cs : Array Value} {t : TypeId} (h : w.heap[b]? = some (.cells cs t (0, 0))) : (w.setCell ⟨b, o, none⟩ v).heap[b]? = some (.cells (cs.setIfInBounds o v) t (0, 0)) := heap_setCell_same w b o cs t v h
theorem hset_eq {w : World} {b : Nat} {cs cs' : Array Value} {t : TypeId} (h : w.heap[b]? = some (.cells cs t (0, 0))) (e : cs = cs') : w.heap[b]? = some (.cells cs' t (0, 0)) := by rw [← e]; exact h
theorem hset_other {w : World} {p : Addr} {k : Nat} {v : Value} {o : Obj} (h : w.heap[k]? = some o) (hk : k ≠ p.block) : (w.setCell p v).heap[k]? = some o := by
  rw [heap_setCell_other w p k v hk]; exact h
theorem hset_alloc {w : World} {k : Nat} {o x : Obj} (h : w.heap[k]? = some x) : (w.alloc o).heap[k]? = some x := by
  have hk : k < w.heap.size := by
    rcases Nat.lt_or_ge k w.heap.size with h1 | h1
    · exact h1
    · rw [Array.getElem?_eq_none h1] at h; simp at h
  rw [Below.heap_alloc w o k hk]; exact h
theorem hset_new {w : World} {k : Nat} {o : Obj} (h : k = w.heap.size) : (w.alloc o).heap[k]? = some o := by rw [h]; exact heap_alloc_new w o
theorem hset_drew {w : World} {k : Nat} {x : Obj} (h : w.heap[k]? = some x) : w.drew.heap[k]? = some x := h
theorem hset_row {w : World} {b : Nat} {cs cs' : Array Value} {t : TypeId} (h : w.heap[b]? = some (.cells cs t (0, 0))) : (w.setRow b cs').heap[b]? = some (.cells cs' t (0, 0)) := setRow_heap w b cs cs' t (0, 0) h
theorem hset_row_other {w : World} {b k : Nat} {cs : Array Value} {x : Obj} (h : w.heap[k]? = some x) (hk : k ≠ b) : (w.setRow b cs).heap[k]? = some x := by rw [setRow_other w b k cs hk]; exact h
theorem box_frozen {w : World} {B : Nat} {cs : Array Value} {t : TypeId} (h : w.heap[B]? = some (.cells cs t (0, 0))) : ∀ i, w.frozen? ⟨B, i, none⟩ = false := fun i => by simp [World.frozen?, h]
theorem box_lt {w : World} {B : Nat} {o : Obj} (h : w.heap[B]? = some o) : B < w.heap.size := by
  rcases Nat.lt_or_ge B w.heap.size with h1 | h1
  · exact h1
  · rw [Array.getElem?_eq_none h1] at h; simp at h
@[simp] theorem size_setRow (w : World) (b : Nat) (cs : Array Value) : (w.setRow b cs).heap.size = w.heap.size := by simp [World.setRow]
theorem below_setRow {B b : Nat} {w0 w : World} (hb : Below B w0 w) (h : B ≤ b) (cs : Array Value) : Below B w0 (w.setRow b cs) :=
  hb.trans ⟨rfl, rfl, rfl, by simp [World.setRow], fun k hk => setRow_other w b k cs (by omega)⟩
theorem ret_bool {a b : Bool} (h : a = b) : Ending.returned (.bool a) = .returned (.bool b) := by rw [h]
theorem ret_int {k : IntKind} {a b : Int} (h : a = b) : Ending.returned (.int k a) = .returned (.int k b) := by rw [h]
structure Ev where
  kind : Int
  field : Int
  bits : Int
  len : Int
  text : ByteArray
  code : Int
  at_ : Int
  deriving DecidableEq
@[reducible] def Ev.cs (e : Ev) : List Value := [.int .i64 e.kind, .int .i64 e.field, .int .u64 e.bits, .int .i64 e.len, .string e.text, .int .i64 e.code, .int .i64 e.at_]
@[reducible] def Ev.val (e : Ev) : Value := .agg #[.int .i64 e.kind, .int .i64 e.field, .int .u64 e.bits, .int .i64 e.len, .string e.text, .int .i64 e.code, .int .i64 e.at_]
def W64 (n : Int) : Prop := (Lit.int .i64 n).wf = true
def WU64 (n : Int) : Prop := (Lit.int .u64 n).wf = true
structure Ev.ok (e : Ev) : Prop where
  kind : W64 e.kind
  field : W64 e.field
  bits : WU64 e.bits
  len : W64 e.len
  text : e.text.size ≤ maxLen
  code : W64 e.code
  at_ : W64 e.at_
theorem W64.lo {n : Int} (h : W64 n) : -9223372036854775808 ≤ n ∧ n ≤ 9223372036854775807 := by
  unfold W64 at h; simpa [Lit.wf, IntKind.min, IntKind.max, IntKind.signed, IntKind.bits] using h
theorem WU64.lo {n : Int} (h : WU64 n) : 0 ≤ n ∧ n ≤ 18446744073709551615 := by
  unfold WU64 at h; simpa [Lit.wf, IntKind.min, IntKind.max, IntKind.signed, IntKind.bits] using h
structure Fld where
  number : Int
  kind : Int
  rep : Bool
  packed : Bool
  msg : Int
  deriving DecidableEq
@[reducible] def Fld.cs (f : Fld) : List Value := [.int .i64 f.number, .int .i64 f.kind, .bool f.rep, .bool f.packed, .int .i64 f.msg]
@[reducible] def Fld.val (f : Fld) : Value := .agg #[.int .i64 f.number, .int .i64 f.kind, .bool f.rep, .bool f.packed, .int .i64 f.msg]
structure Fld.ok (f : Fld) : Prop where
  number : W64 f.number
  kind : W64 f.kind
  msg : W64 f.msg
section
variable {H : Type} {enc : TypeId × Value → H} {P : Program} {W : World} {base : Nat} {sp : Nat → Bool} {t : TypeId} {v : Value} {d : DataW H} {ps : List MemPlace}
theorem flat_trod {ks : List CK} (hk : flat P 9 t = some ks) (hc : P.cellsOf t = ks.length) (h : DataW.Trod enc P W 0 sp true t v d ps) :
    ∀ (j : Nat) (ck : CK), ks[j]? = some ck → ∃ x, v.cells.toList[j]? = some x ∧ ∀ N, ck.ok W N x := by
  obtain ⟨m, hm⟩ := h
  exact flat_open 9 m t ks _ _ hk hc hm
theorem ok_int {w : World} {k : IntKind} {v : Value} (h : (CK.int k).ok w 1 v) : ∃ m, v = .int k m ∧ (Lit.int k m).wf = true := h
end
section
variable {H : Type} {enc : TypeId × Value → H} {W : World} {base : Nat} {sp : Nat → Bool} {v : Value} {d : DataW H} {ps : List MemPlace}
end
def inB (x a b : Int) : Bool := decide (a ≤ x ∧ x ≤ b)
theorem inB_of {x a b : Int} (h1 : a ≤ x) : decide (x ≤ b) = inB x a b := by simp [inB, h1]
theorem inB_no {x a b : Int} (h1 : x < a) : false = inB x a b := by simp [inB]; omega
theorem l1In_any (x a b : Int) (w : World) : Calls Try.prog 43 #[.int .i64 x, .int .i64 a, .int .i64 b] w fun r w' => r = .returned (.bool (inB x a b)) ∧ w = w' := by
  by_cases h : a ≤ x
  · go_enter Try.func43, Try.ntmps43
    go_wp2
    go_ret
    exact ⟨by rw [inB_of h]; rfl, rfl⟩
  · go_enter Try.func43, Try.ntmps43
    go_wp2
    go_ret
    exact ⟨by rw [← inB_no (by omega)]; rfl, rfl⟩
theorem within_any (x a b : Int) (w : World) : Calls Try.prog 47 #[.int .i64 x, .int .i64 a, .int .i64 b] w fun r w' => r = .returned (.bool (inB x a b)) ∧ w = w' := by
  by_cases h : a ≤ x
  · go_enter Try.func47, Try.ntmps47
    go_wp2
    go_ret
    exact ⟨by rw [inB_of h]; rfl, rfl⟩
  · go_enter Try.func47, Try.ntmps47
    go_wp2
    go_ret
    exact ⟨by rw [← inB_no (by omega)]; rfl, rfl⟩
end Go.Proofs.Ytbpilecgnfnndaa
namespace Go.Proofs.Ytbpilecgnfnndaa
set_option linter.unusedSimpArgs false
set_option linter.unusedVariables false
open Go.ChangeShapes Go.WideShapes Go.ChangeAt Go.RowKit Go.BigFrame
def Sl {α : Type} (sz : Nat) (cs : α → List Value) (w : World) (a : Option Addr) (xs : List α) : Prop :=
  ∀ (k : Nat) (e : α), xs[k]? = some e → ∃ b off, a = some ⟨b, off, none⟩ ∧ b < w.heap.size ∧ ∀ (j : Nat) (u : Value), (cs e)[j]? = some u → w.cell? ⟨b, off + k * sz + j, none⟩ = some u
section
variable {α : Type} {sz : Nat} {cs : α → List Value} {w w' : World} {a : Option Addr} {xs : List α}
theorem Sl.nil (a : Option Addr) : Sl sz cs w a [] := fun k e h => by simp at h
theorem Sl.below {B : Nat} (h : Sl sz cs w a xs) (hb : Below B w w') (hB : w.heap.size ≤ B) : Sl sz cs w' a xs := by
  intro k e he
  obtain ⟨b, off, ha, hlt, hc⟩ := h k e he
  exact ⟨b, off, ha, Nat.lt_of_lt_of_le hlt hb.size, fun j u hu => (hb.cell (p := ⟨b, _, none⟩) (Nat.lt_of_lt_of_le hlt hB)).trans (hc j u hu)⟩
theorem Sl.keep (h : Sl sz cs w a xs) (hb : Below w.heap.size w w') : Sl sz cs w' a xs := h.below hb (Nat.le_refl _)
theorem flatMap_at (hcs : ∀ x, (cs x).length = sz) : ∀ (xs : List α) (k j : Nat) (e : α), xs[k]? = some e → j < sz → (xs.flatMap cs)[k * sz + j]? = (cs e)[j]?
  | [], k, j, e, he, _ => by simp at he
  | x :: xs, 0, j, e, he, hj => by
    simp at he; subst he
    simp only [List.flatMap_cons, Nat.zero_mul, Nat.zero_add]
    rw [List.getElem?_append_left (by rw [hcs]; exact hj)]
  | x :: xs, k + 1, j, e, he, hj => by
    simp at he
    have ih := flatMap_at hcs xs k j e he hj
    simp only [List.flatMap_cons]
    rw [List.getElem?_append_right (by rw [hcs, Nat.succ_mul]; omega), hcs, ← ih]
    congr 1
    rw [Nat.succ_mul]; omega
theorem flatMap_len (hcs : ∀ x, (cs x).length = sz) : ∀ (xs : List α), (xs.flatMap cs).length = xs.length * sz
  | [] => by simp
  | x :: xs => by simp only [List.flatMap_cons, List.length_append, List.length_cons, hcs, flatMap_len hcs xs, Nat.succ_mul]; omega
theorem Sl.of_owns {base : Nat} {t : TypeId} {v : Value} {n : Nat} (hcs : ∀ x, (cs x).length = sz) (h : w.ownsRow base t sz v n (xs.flatMap cs)) (hn : xs.length = n) :
    ∃ (a : Option Addr) (cap : Nat), v = .slice a n cap ∧ n ≤ cap ∧ cap ≤ maxLen ∧ Sl sz cs w a xs := by
  obtain ⟨hl, h⟩ := h
  rcases h with ⟨rfl, h0⟩ | ⟨g, cap, cur, rfl, hb, hh, hc, hm, hs, ht⟩
  · have : xs = [] := List.length_eq_zero_iff.1 (by omega)
    subst this
    exact ⟨none, 0, by simp [h0], by omega, Nat.zero_le _, Sl.nil _⟩
  · refine ⟨some ⟨g, 0, none⟩, cap, rfl, hc, hm, ?_⟩
    intro k e he
    have hk : k < xs.length := by
      rcases Nat.lt_or_ge k xs.length with h | h
      · exact h
      · rw [List.getElem?_eq_none h] at he; simp at he
    refine ⟨g, 0, rfl, ?_, ?_⟩
    · rcases Nat.lt_or_ge g w.heap.size with h | h
      · exact h
      · rw [Array.getElem?_eq_none h] at hh; simp at hh
    · intro j u hu
      have hj : j < sz := by
        rcases Nat.lt_or_ge j sz with h | h
        · exact h
        · rw [List.getElem?_eq_none (by rw [hcs]; exact h)] at hu; simp at hu
      have h1 := flatMap_at hcs xs k j e he hj
      rw [← ht] at h1
      have hlt : k * sz + j < n * sz := by
        have : (k + 1) * sz ≤ n * sz := Nat.mul_le_mul_right _ (by omega)
        rw [Nat.succ_mul] at this; omega
      rw [List.getElem?_take_of_lt hlt, hu] at h1
      simp only [World.cell?, hh, Nat.zero_add]
      simpa using h1
end
structure SlArg (α : Type) where
  a : Option Addr
  cap : Nat
  xs : List α
@[reducible] def SlArg.val {α : Type} (x : SlArg α) : Value := .slice x.a x.xs.length x.cap
structure SlArg.ok {α : Type} (sz : Nat) (cs : α → List Value) (OK : α → Prop) (w : World) (x : SlArg α) : Prop where
  sl : Sl sz cs w x.a x.xs
  each : ∀ e ∈ x.xs, OK e
  le : x.xs.length ≤ x.cap
  cap : x.cap ≤ maxLen
theorem list_of {α : Type} {p : Nat → α → Prop} : ∀ (n : Nat), (∀ i, i < n → ∃ e, p i e) → ∃ xs : List α, xs.length = n ∧ ∀ i e, xs[i]? = some e → p i e
  | 0, _ => ⟨[], rfl, fun i e h => by simp at h⟩
  | n + 1, h => by
    obtain ⟨xs, hl, hx⟩ := list_of n (fun i hi => h i (by omega))
    obtain ⟨e, he⟩ := h n (by omega)
    refine ⟨xs ++ [e], by simp [hl], fun i u hu => ?_⟩
    rcases Nat.lt_trichotomy i n with hi | rfl | hi
    · rw [List.getElem?_append_left (by omega)] at hu; exact hx i u hu
    · rw [List.getElem?_append_right (by omega), hl] at hu; simp at hu; subst hu; exact he
    · rw [List.getElem?_eq_none (by simp; omega)] at hu; simp at hu
theorem sl_open {α : Type} {cks : List CK} {sz N : Nat} {cs : α → List Value} {OK : α → Prop} {w : World} {v : Value} (h : (CK.sl cks).ok w (N + 1) v) (hsz : cks.length = sz) (h0 : 0 < sz) (hcs : ∀ x, (cs x).length = sz)
    (mk : ∀ l : List Value, l.length = sz → (∀ (j : Nat) (ck : CK), cks[j]? = some ck → ∃ x, l[j]? = some x ∧ ck.ok w N x) → ∃ e : α, l = cs e ∧ OK e) :
    ∃ x : SlArg α, v = x.val ∧ x.ok sz cs OK w := by
  rcases h with rfl | ⟨a, len, cap, rfl, hl, hm, hi⟩
  · exact ⟨⟨none, 0, []⟩, rfl, ⟨Sl.nil _, fun e he => by simp at he, Nat.le_refl _, Nat.zero_le _⟩⟩
  · rw [hsz] at hi
    have key : ∀ i, i < len → ∃ e : α, OK e ∧ ∃ b off, some a = some ⟨b, off, none⟩ ∧ b < w.heap.size ∧ ∀ (j : Nat) (u : Value), (cs e)[j]? = some u → w.cell? ⟨b, off + i * sz + j, none⟩ = some u := by
      intro i hlt
      obtain ⟨b, off, spot⟩ := a
      have hsp : spot = none := by
        obtain ⟨l, hl1, hl2⟩ := hi 0 (by omega)
        obtain ⟨_, hlen, hc⟩ := World.cells?_some hl1
        have h1 := hc 0 h0
        rw [List.getElem?_eq_getElem (by omega)] at h1
        have := World.cell?_spot h1
        simpa [Addr.add] using this
      subst hsp
      obtain ⟨l, hl1, hl2⟩ := hi i hlt
      obtain ⟨_, hlen, hc⟩ := World.cells?_some hl1
      obtain ⟨e, rfl, hok⟩ := mk l hlen hl2
      have hcell : ∀ (j : Nat) (u : Value), (cs e)[j]? = some u → w.cell? ⟨b, off + i * sz + j, none⟩ = some u := by
        intro j u hu
        have hj : j < sz := by
          rcases Nat.lt_or_ge j sz with h | h
          · exact h
          · rw [List.getElem?_eq_none (by rw [hcs]; exact h)] at hu; simp at hu
        have h1 := hc j hj
        rw [hu] at h1
        rw [← h1]
        congr 1
        simp only [Addr.add]
        split <;> split <;> simp_all
      refine ⟨e, hok, b, off, rfl, ?_, hcell⟩
      exact World.block_lt_of_cell? w _ (hcell 0 _ (List.getElem?_eq_getElem (by rw [hcs]; exact h0)))
    obtain ⟨xs, hlen, hx⟩ := list_of len key
    refine ⟨⟨some a, cap, xs⟩, by simp [SlArg.val, hlen], ⟨fun k e he => (hx k e he).2, fun e he => ?_, by simp only; omega, hm⟩⟩
    obtain ⟨i, hi', rfl⟩ := List.getElem_of_mem he
    exact (hx i _ (List.getElem?_eq_getElem hi')).1
@[reducible] def Evs := Sl 7 Ev.cs
theorem Evs.at {w : World} {a : Option Addr} {xs : List Ev} (h : Evs w a xs) {k : Nat} {e : Ev} (he : xs[k]? = some e) :
    ∃ b off, a = some ⟨b, off, none⟩ ∧ b < w.heap.size ∧ w.cell? ⟨b, off + k * 7, none⟩ = some (.int .i64 e.kind) ∧ w.cell? ⟨b, off + k * 7 + 1, none⟩ = some (.int .i64 e.field) ∧ w.cell? ⟨b, off + k * 7 + 2, none⟩ = some (.int .u64 e.bits)
      ∧ w.cell? ⟨b, off + k * 7 + 3, none⟩ = some (.int .i64 e.len) ∧ w.cell? ⟨b, off + k * 7 + 4, none⟩ = some (.string e.text) ∧ w.cell? ⟨b, off + k * 7 + 5, none⟩ = some (.int .i64 e.code) ∧ w.cell? ⟨b, off + k * 7 + 6, none⟩ = some (.int .i64 e.at_) := by
  obtain ⟨b, off, ha, hlt, hc⟩ := h k e he
  exact ⟨b, off, ha, hlt, hc 0 _ rfl, hc 1 _ rfl, hc 2 _ rfl, hc 3 _ rfl, hc 4 _ rfl, hc 5 _ rfl, hc 6 _ rfl⟩
theorem at_lt {α : Type} {xs : List α} {k : Nat} (h : k < xs.length) : ∃ e, xs[k]? = some e ∧ e ∈ xs := ⟨xs[k], List.getElem?_eq_getElem h, List.getElem_mem h⟩
theorem owns_below {w w' : World} {B base : Nat} {e : TypeId} {size n : Nat} {v : Value} {xs : List Value} (h : w.ownsRow base e size v n xs) (hb : Below B w w') (hB : w.heap.size ≤ B) : w'.ownsRow base e size v n xs := by
  obtain ⟨hl, h⟩ := h
  refine ⟨hl, ?_⟩
  rcases h with h | ⟨g, cap, cur, hv, hg, hh, r⟩
  · exact .inl h
  · have hlt : g < w.heap.size := by
      rcases Nat.lt_or_ge g w.heap.size with h | h
      · exact h
      · rw [Array.getElem?_eq_none h] at hh; simp at hh
    exact .inr ⟨g, cap, cur, hv, hg, by rw [hb.block g (by omega)]; exact hh, r⟩
theorem owns_le {w : World} {base b' : Nat} {e : TypeId} {size n : Nat} {v : Value} {xs : List Value} (h : w.ownsRow base e size v n xs) (hb : b' ≤ base) : w.ownsRow b' e size v n xs := by
  obtain ⟨hl, h⟩ := h
  refine ⟨hl, ?_⟩
  rcases h with h | ⟨g, cap, cur, hv, hg, r⟩
  · exact .inl h
  · exact .inr ⟨g, cap, cur, hv, by omega, r⟩
theorem owns_set {w : World} {base : Nat} {e : TypeId} {size n : Nat} {v : Value} {xs : List Value} (h : w.ownsRow base e size v n xs) {p : Addr} (hp : p.block < base) (u : Value) : (w.setCell p u).ownsRow base e size v n xs := by
  obtain ⟨hl, h⟩ := h
  refine ⟨hl, ?_⟩
  rcases h with h | ⟨g, cap, cur, hv, hg, hh, r⟩
  · exact .inl h
  · exact .inr ⟨g, cap, cur, hv, hg, by rw [Below.heap_setCell w p u g (by omega)]; exact hh, r⟩
theorem owns_setRow {w : World} {base b : Nat} {e : TypeId} {size n : Nat} {v : Value} {xs : List Value} (h : w.ownsRow base e size v n xs) (hb : b < base) (cs : Array Value) : (w.setRow b cs).ownsRow base e size v n xs := by
  obtain ⟨hl, h⟩ := h
  refine ⟨hl, ?_⟩
  rcases h with h | ⟨g, cap, cur, hv, hg, hh, r⟩
  · exact .inl h
  · exact .inr ⟨g, cap, cur, hv, hg, by rw [setRow_other w b g cs (by omega)]; exact hh, r⟩
def setRow (L : List Value) (o : Nat) : List Value → List Value
  | [] => L
  | c :: cs => setRow (L.set o c) (o + 1) cs
theorem setRow_take : ∀ (cs : List Value) (L : List Value) (o : Nat), o + cs.length ≤ L.length → (setRow L o cs).take (o + cs.length) = L.take o ++ cs
  | [], L, o, _ => by simp [setRow]
  | c :: cs, L, o, h => by
    simp only [List.length_cons] at h
    have ih := setRow_take cs (L.set o c) (o + 1) (by simp; omega)
    simp only [setRow, List.length_cons]
    rw [show o + (cs.length + 1) = o + 1 + cs.length by omega, ih, List.take_add_one, List.take_set]
    have h1 : (L.set o c)[o]? = some c := by rw [List.getElem?_set]; simp; omega
    rw [h1]
    have h2 : (L.take o).set o c = L.take o := by rw [List.set_eq_of_length_le]; simp; omega
    rw [h2]; simp
theorem owns_some {w : World} {base g cap n size : Nat} {t : TypeId} {L : List Value} (h : w.ownsRow base t size (.slice (some ⟨g, 0, none⟩) n cap) n L) (j : Nat) (hj : j < n * size) : ∃ u, w.cell? ⟨g, j, none⟩ = some u :=
  ⟨L[j]'(by rw [h.1]; exact hj), by rw [h.cellAt j hj]; exact List.getElem?_eq_getElem _⟩
theorem specNumeric_any (x : Int) (w : World) : Calls Try.prog 76 #[.int .i64 x] w fun r w' => r = .returned (.bool (inB x 1 5)) ∧ w = w' := by
  go_enter Try.func76, Try.ntmps76
  go_wp2_with (first | (go_at_call 43; refine (l1In_any _ _ _ _).mono ?_; rintro r w1 ⟨rfl, rfl⟩))
  go_ret
  exact ⟨rfl, rfl⟩
theorem implNumeric_any (x : Int) (w : World) : Calls Try.prog 79 #[.int .i64 x] w fun r w' => r = .returned (.bool (inB x 1 5)) ∧ w = w' := by
  go_enter Try.func79, Try.ntmps79
  go_wp2_with (first | (go_at_call 47; refine (within_any _ _ _ _).mono ?_; rintro r w1 ⟨rfl, rfl⟩))
  go_ret
  exact ⟨rfl, rfl⟩
@[reducible] def Flds := Sl 5 Fld.cs
theorem Flds.at {w : World} {a : Option Addr} {xs : List Fld} (h : Flds w a xs) {k : Nat} {e : Fld} (he : xs[k]? = some e) :
    ∃ b off, a = some ⟨b, off, none⟩ ∧ b < w.heap.size ∧ w.cell? ⟨b, off + k * 5, none⟩ = some (.int .i64 e.number) ∧ w.cell? ⟨b, off + k * 5 + 1, none⟩ = some (.int .i64 e.kind) ∧ w.cell? ⟨b, off + k * 5 + 2, none⟩ = some (.bool e.rep) ∧ w.cell? ⟨b, off + k * 5 + 3, none⟩ = some (.bool e.packed) ∧ w.cell? ⟨b, off + k * 5 + 4, none⟩ = some (.int .i64 e.msg) := by
  obtain ⟨b, off, ha, hlt, hc⟩ := h k e he
  exact ⟨b, off, ha, hlt, hc 0 _ rfl, hc 1 _ rfl, hc 2 _ rfl, hc 3 _ rfl, hc 4 _ rfl⟩
theorem fld_len (e : Fld) : e.cs.length = 5 := rfl
theorem owns_store_fld {w : World} {base g cap n : Nat} {t : TypeId} {L : List Value} (h : w.ownsRow base t 5 (.slice (some ⟨g, 0, none⟩) n cap) n L) (k : Nat) (e : Fld) :
    (((((w.setCell ⟨g, k * 5, none⟩ (.int .i64 e.number)).setCell ⟨g, k * 5 + 1, none⟩ (.int .i64 e.kind)).setCell ⟨g, k * 5 + 2, none⟩ (.bool e.rep)).setCell ⟨g, k * 5 + 3, none⟩ (.bool e.packed)).setCell ⟨g, k * 5 + 4, none⟩ (.int .i64 e.msg)).ownsRow base t 5 (.slice (some ⟨g, 0, none⟩) n cap) n (setRow L (k * 5) e.cs) := by
  have h0 := (h.stored (k * 5) (.int .i64 e.number)).1
  have h1 := (h0.stored (k * 5 + 1) (.int .i64 e.kind)).1
  have h2 := (h1.stored (k * 5 + 2) (.bool e.rep)).1
  have h3 := (h2.stored (k * 5 + 3) (.bool e.packed)).1
  exact (h3.stored (k * 5 + 4) (.int .i64 e.msg)).1
theorem flds_of_own {w' : World} {base n cap : Nat} {a : Option Addr} {t : TypeId} {xs : List Fld} (h : w'.ownsRow base t 5 (.slice a n cap) n (xs.flatMap Fld.cs)) (hn : xs.length = n) : Flds w' a xs := by
  obtain ⟨a', cap', e, _, _, hs⟩ := Sl.of_owns fld_len h hn
  simp only [Value.slice.injEq] at e
  rw [e.1]; exact hs
structure Shp where
  id : Int
  flds : List Fld
  deriving DecidableEq
structure ShR where
  id : Int
  a : Option Addr
  n : Nat
  cap : Nat
@[reducible] def ShR.cs (r : ShR) : List Value := [.int .i64 r.id, .slice r.a r.n r.cap]
theorem shR_len (r : ShR) : r.cs.length = 2 := rfl
def Shs (w : World) (a : Option Addr) (xs : List Shp) : Prop :=
  ∀ (k : Nat) (x : Shp), xs[k]? = some x → ∃ b off a' cap', a = some ⟨b, off, none⟩ ∧ b < w.heap.size ∧ w.cell? ⟨b, off + k * 2, none⟩ = some (.int .i64 x.id) ∧ w.cell? ⟨b, off + k * 2 + 1, none⟩ = some (.slice a' x.flds.length cap') ∧ Flds w a' x.flds
section
variable {w w' : World} {a : Option Addr} {xs : List Shp}
theorem Shs.below {B : Nat} (h : Shs w a xs) (hb : Below B w w') (hB : w.heap.size ≤ B) : Shs w' a xs := by
  intro k x hx
  obtain ⟨b, off, a', cap', ha, hlt, c0, c1, hf⟩ := h k x hx
  exact ⟨b, off, a', cap', ha, Nat.lt_of_lt_of_le hlt hb.size, (hb.cell (p := ⟨b, _, none⟩) (Nat.lt_of_lt_of_le hlt hB)).trans c0, (hb.cell (p := ⟨b, _, none⟩) (Nat.lt_of_lt_of_le hlt hB)).trans c1, hf.below hb hB⟩
theorem Shs.keep (h : Shs w a xs) (hb : Below w.heap.size w w') : Shs w' a xs := h.below hb (Nat.le_refl _)
end
def fldSum (xs : List Shp) : Nat := (xs.map fun x => x.flds.length).sum
theorem fldSum_snoc {xs : List Shp} {k : Nat} {e : Shp} (he : xs[k]? = some e) : fldSum (xs.take (k + 1)) = fldSum (xs.take k) + e.flds.length := by
  rw [List.take_add_one, he]; simp [fldSum]
theorem fldSum_take (xs : List Shp) (k : Nat) : fldSum (xs.take k) ≤ fldSum xs := by
  have : fldSum xs = fldSum (xs.take k) + fldSum (xs.drop k) := by
    simp only [fldSum, ← List.sum_append, ← List.map_append, List.take_append_drop]
  omega
theorem fldSum_ge {xs : List Shp} {k : Nat} {e : Shp} (he : xs[k]? = some e) : e.flds.length ≤ fldSum xs := by
  have h1 := fldSum_snoc he
  have h2 := fldSum_take xs (k + 1)
  omega
structure ShpOk (x : Shp) : Prop where
  id : W64 x.id
  n : x.flds.length ≤ maxLen
  flds : ∀ f ∈ x.flds, f.ok
def RowIs (w : World) (base : Nat) (TF : TypeId) (r : ShR) (x : Shp) : Prop := r.id = x.id ∧ r.n = x.flds.length ∧ w.ownsRow base TF 5 (.slice r.a r.n r.cap) r.n (x.flds.flatMap Fld.cs)
def Apart (rs : List ShR) : Prop := ∀ (i j : Nat) (r s : ShR), rs[i]? = some r → rs[j]? = some s → i ≠ j → ∀ g, (Value.slice r.a r.n r.cap).ownBlock = some g → (Value.slice s.a s.n s.cap).ownBlock ≠ some g
structure OwnShs (w : World) (base : Nat) (T TF : TypeId) (v : Value) (n : Nat) (rs : List ShR) (xs : List Shp) : Prop where
  len : rs.length = n
  lenx : xs.length = n
  outer : w.ownsRow base T 2 v n (rs.flatMap ShR.cs)
  each : ∀ (k : Nat) (r : ShR) (x : Shp), rs[k]? = some r → xs[k]? = some x → RowIs w base TF r x
  apart : Apart rs
theorem Apart.nil : Apart [] := fun i j r s h => by simp at h
theorem Apart.snoc {rs : List ShR} {r : ShR} (h : Apart rs) (hr : ∀ (i : Nat) (s : ShR), rs[i]? = some s → ∀ g, (Value.slice s.a s.n s.cap).ownBlock = some g → (Value.slice r.a r.n r.cap).ownBlock ≠ some g) : Apart (rs ++ [r]) := by
  intro i j x y hx hy hij g hg hg'
  rcases Nat.lt_trichotomy i rs.length with hi | hi | hi
  · rw [List.getElem?_append_left hi] at hx
    rcases Nat.lt_trichotomy j rs.length with hj | hj | hj
    · rw [List.getElem?_append_left hj] at hy
      exact h i j x y hx hy hij g hg hg'
    · rw [List.getElem?_append_right (by omega), hj] at hy
      simp at hy; subst hy
      exact hr i x hx g hg hg'
    · rw [List.getElem?_eq_none (by simp; omega)] at hy; simp at hy
  · rw [List.getElem?_append_right (by omega), hi] at hx
    simp at hx; subst hx
    rcases Nat.lt_trichotomy j rs.length with hj | hj | hj
    · rw [List.getElem?_append_left hj] at hy
      exact hr j y hy g hg' hg
    · omega
    · rw [List.getElem?_eq_none (by simp; omega)] at hy; simp at hy
  · rw [List.getElem?_eq_none (by simp; omega)] at hx; simp at hx
theorem RowIs.below {w w' : World} {B base : Nat} {TF : TypeId} {r : ShR} {x : Shp} (h : RowIs w base TF r x) (hb : Below B w w') (hB : w.heap.size ≤ B) : RowIs w' base TF r x :=
  ⟨h.1, h.2.1, owns_below h.2.2 hb hB⟩
theorem OwnShs.below {w w' : World} {B base : Nat} {T TF : TypeId} {v : Value} {n : Nat} {rs : List ShR} {xs : List Shp} (h : OwnShs w base T TF v n rs xs) (hb : Below B w w') (hB : w.heap.size ≤ B) : OwnShs w' base T TF v n rs xs :=
  ⟨h.len, h.lenx, owns_below h.outer hb hB, fun k r x hr hx => (h.each k r x hr hx).below hb hB, h.apart⟩
theorem OwnShs.shs {w : World} {base : Nat} {T TF : TypeId} {a : Option Addr} {n cap : Nat} {rs : List ShR} {xs : List Shp} (h : OwnShs w base T TF (.slice a n cap) n rs xs) : Shs w a xs := by
  intro k x hx
  have hk : k < xs.length := by
    rcases Nat.lt_or_ge k xs.length with h | h
    · exact h
    · rw [List.getElem?_eq_none h] at hx; simp at hx
  have hkr : k < rs.length := by rw [h.len, ← h.lenx]; exact hk
  obtain ⟨a1, cap1, e, _, _, hs⟩ := Sl.of_owns shR_len h.outer h.len
  simp only [Value.slice.injEq] at e
  obtain ⟨rfl, _, rfl⟩ := e
  obtain ⟨b, off, ha, hlt, hc⟩ := hs k rs[k] (List.getElem?_eq_getElem hkr)
  obtain ⟨h1, h2, h3⟩ := h.each k rs[k] x (List.getElem?_eq_getElem hkr) hx
  have c0 := hc 0 _ rfl
  have c1 := hc 1 _ rfl
  rw [h1] at c0
  rw [h2] at c1
  exact ⟨b, off, rs[k].a, rs[k].cap, ha, hlt, c0, c1, by rw [h2] at h3; exact flds_of_own h3 rfl⟩
theorem RowIs.set {w : World} {base : Nat} {TF : TypeId} {r : ShR} {x : Shp} (h : RowIs w base TF r x) {p : Addr} (hp : p.block < base) (u : Value) : RowIs (w.setCell p u) base TF r x := ⟨h.1, h.2.1, owns_set h.2.2 hp u⟩
theorem OwnShs.set {w : World} {base : Nat} {T TF : TypeId} {v : Value} {n : Nat} {rs : List ShR} {xs : List Shp} (h : OwnShs w base T TF v n rs xs) {p : Addr} (hp : p.block < base) (u : Value) : OwnShs (w.setCell p u) base T TF v n rs xs :=
  ⟨h.len, h.lenx, owns_set h.outer hp u, fun k r x hr hx => (h.each k r x hr hx).set hp u, h.apart⟩
theorem OwnShs.setRow {w : World} {base b : Nat} {T TF : TypeId} {v : Value} {n : Nat} {rs : List ShR} {xs : List Shp} (h : OwnShs w base T TF v n rs xs) (hb : b < base) (cs : Array Value) : OwnShs (w.setRow b cs) base T TF v n rs xs :=
  ⟨h.len, h.lenx, owns_setRow h.outer hb cs, fun k r x hr hx => ⟨(h.each k r x hr hx).1, (h.each k r x hr hx).2.1, owns_setRow (h.each k r x hr hx).2.2 hb cs⟩, h.apart⟩
theorem OwnShs.le {w : World} {base b' : Nat} {T TF : TypeId} {v : Value} {n : Nat} {rs : List ShR} {xs : List Shp} (h : OwnShs w base T TF v n rs xs) (hb : b' ≤ base) : OwnShs w b' T TF v n rs xs :=
  ⟨h.len, h.lenx, owns_le h.outer hb, fun k r x hr hx => ⟨(h.each k r x hr hx).1, (h.each k r x hr hx).2.1, owns_le (h.each k r x hr hx).2.2 hb⟩, h.apart⟩
theorem ShR.store {w : World} {base g cap n : Nat} {t : TypeId} {L : List Value} (h : w.ownsRow base t 2 (.slice (some ⟨g, 0, none⟩) n cap) n L) (k : Nat) (r : ShR) :
    ((w.setCell ⟨g, k * 2, none⟩ (.int .i64 r.id)).setCell ⟨g, k * 2 + 1, none⟩ (.slice r.a r.n r.cap)).ownsRow base t 2 (.slice (some ⟨g, 0, none⟩) n cap) n (setRow L (k * 2) r.cs) := by
  have h0 := (h.stored (k * 2) (.int .i64 r.id)).1
  exact (h0.stored (k * 2 + 1) (.slice r.a r.n r.cap)).1
structure Filling (w : World) (base : Nat) (T TF : TypeId) (v : Value) (n k : Nat) (L : List Value) (rs : List ShR) (xs : List Shp) : Prop where
  len : rs.length = k
  outer : w.ownsRow base T 2 v n L
  head : L.take (k * 2) = rs.flatMap ShR.cs
  each : ∀ (i : Nat) (r : ShR) (x : Shp), rs[i]? = some r → xs[i]? = some x → RowIs w base TF r x
  apart : Apart rs
  old : ∀ (i : Nat) (r : ShR), rs[i]? = some r → ∀ g, (Value.slice r.a r.n r.cap).ownBlock = some g → g < w.heap.size
theorem Filling.step {w w1 : World} {base g n cap k : Nat} {T TF : TypeId} {L : List Value} {rs : List ShR} {xs : List Shp} (h : Filling w base T TF (.slice (some ⟨g, 0, none⟩) n cap) n k L rs xs)
    (hb : Below w.heap.size w w1) (hne : T ≠ TF) (hbase : base ≤ w.heap.size) {x : Shp} (hx : xs[k]? = some x) (hk : k < n) {a : Option Addr} {c : Nat}
    (hr : w1.ownsRow w.heap.size TF 5 (.slice a x.flds.length c) x.flds.length (x.flds.flatMap Fld.cs)) :
    ∃ L' rs', Filling ((w1.setCell ⟨g, k * 2, none⟩ (.int .i64 x.id)).setCell ⟨g, k * 2 + 1, none⟩ (.slice a x.flds.length c)) base T TF (.slice (some ⟨g, 0, none⟩) n cap) n (k + 1) L' rs' xs := by
  have ho1 := owns_below h.outer hb (Nat.le_refl _)
  have hst := ShR.store ho1 k ⟨x.id, a, x.flds.length, c⟩
  have far : ∀ {r : ShR} {y : Shp}, RowIs w1 base TF r y → RowIs ((w1.setCell ⟨g, k * 2, none⟩ (.int .i64 x.id)).setCell ⟨g, k * 2 + 1, none⟩ (.slice a x.flds.length c)) base TF r y := by
    intro r y hry
    obtain ⟨e1, e2, e3⟩ := hry
    refine ⟨e1, e2, ?_⟩
    have hne' : (Value.slice r.a r.n r.cap).ownBlock ≠ some g := by
      intro hg
      obtain ⟨_, hlt⟩ := World.ownsRow.lt e3 g hg
      rcases e3.2 with ⟨e4, _⟩ | ⟨g1, c1, cur1, e4, _, hh1, _⟩
      · rw [e4] at hg; simp [Value.ownBlock] at hg
      · rw [e4] at hg
        simp [Value.ownBlock] at hg
        subst hg
        rcases ho1.2 with ⟨e5, _⟩ | ⟨g2, c2, cur2, e5, _, hh2, _⟩
        · simp at e5
        · simp only [Value.slice.injEq, Option.some.injEq, Addr.mk.injEq] at e5
          obtain ⟨⟨rfl, _, _⟩, _, _⟩ := e5
          rw [hh1] at hh2
          simp at hh2
          exact hne hh2.2.symm
    have k1 := e3.kept (ho1.stored (k * 2) (.int .i64 x.id)).2 (.inr hne')
    exact k1.kept ((ho1.stored (k * 2) (.int .i64 x.id)).1.stored (k * 2 + 1) (.slice a x.flds.length c)).2 (.inr hne')
  refine ⟨_, rs ++ [⟨x.id, a, x.flds.length, c⟩], ?_, hst, ?_, ?_, ?_, ?_⟩
  · simp [h.len]
  · have hL := h.outer.1
    have := setRow_take (ShR.cs ⟨x.id, a, x.flds.length, c⟩) L (k * 2) (by simp only [List.length_cons, List.length_nil]; omega)
    simp only [List.length_cons, List.length_nil] at this
    rw [show (k + 1) * 2 = k * 2 + (0 + 1 + 1) by omega, this, h.head]
    simp
  · intro i r y hr' hy
    rcases Nat.lt_trichotomy i k with hi | hi | hi
    · rw [List.getElem?_append_left (by rw [h.len]; exact hi)] at hr'
      exact far ((h.each i r y hr' hy).below hb (Nat.le_refl _))
    · subst hi
      rw [List.getElem?_append_right (by rw [h.len]; omega), h.len] at hr'
      simp at hr'; subst hr'
      rw [hx] at hy; simp at hy; subst hy
      exact far ⟨rfl, rfl, owns_le hr hbase⟩
    · rw [List.getElem?_eq_none (by simp [h.len]; omega)] at hr'; simp at hr'
  · refine h.apart.snoc fun i s hs b hg hb' => ?_
    have h1 := h.old i s hs b hg
    obtain ⟨h2, _⟩ := World.ownsRow.lt hr b hb'
    omega
  · intro i r hr' b hg
    rcases Nat.lt_trichotomy i k with hi | hi | hi
    · rw [List.getElem?_append_left (by rw [h.len]; exact hi)] at hr'
      have := h.old i r hr' b hg
      have := hb.size
      simp only [World.size_setCell]; omega
    · subst hi
      rw [List.getElem?_append_right (by rw [h.len]; omega), h.len] at hr'
      simp at hr'; subst hr'
      obtain ⟨_, h2⟩ := World.ownsRow.lt hr b hg
      simpa using h2
    · rw [List.getElem?_eq_none (by simp [h.len]; omega)] at hr'; simp at hr'
theorem Filling.below {w w' : World} {B base : Nat} {T TF : TypeId} {v : Value} {n k : Nat} {L : List Value} {rs : List ShR} {xs : List Shp} (h : Filling w base T TF v n k L rs xs) (hb : Below B w w') (hB : w.heap.size ≤ B) : Filling w' base T TF v n k L rs xs :=
  ⟨h.len, owns_below h.outer hb hB, h.head, fun i r x hr hx => (h.each i r x hr hx).below hb hB, h.apart, fun i r hr g hg => Nat.lt_of_lt_of_le (h.old i r hr g hg) hb.size⟩
theorem Filling.own {w : World} {base : Nat} {T TF : TypeId} {v : Value} {n : Nat} {L : List Value} {rs : List ShR} {xs : List Shp} (h : Filling w base T TF v n n L rs xs) (hx : xs.length = n) : OwnShs w base T TF v n rs xs := by
  have hL := h.outer.1
  have h1 := h.head
  rw [List.take_of_length_le (by omega)] at h1
  exact ⟨h.len, hx, by rw [← h1]; exact h.outer, h.each, h.apart⟩
def numOk (n : Int) : Bool := inB n 1 536870911 && !inB n 19000 19999
theorem specNumberOk_any (n : Int) (w : World) : Calls Try.prog 73 #[.int .i64 n] w fun r w' => r = .returned (.bool (numOk n)) ∧ w = w' := by
  by_cases h : inB n 1 536870911 = true
  · go_enter Try.func73, Try.ntmps73
    go_wp2_with (first | (go_at_call 43; refine (l1In_any _ _ _ _).mono ?_; rintro r w1 ⟨rfl, rfl⟩))
    go_ret
    exact ⟨ret_bool (by simp [numOk, h]), rfl⟩
  · have h' : inB n 1 536870911 = false := by simpa using h
    clear h
    go_enter Try.func73, Try.ntmps73
    go_wp2_with (first | (go_at_call 43; refine (l1In_any _ _ _ _).mono ?_; rintro r w1 ⟨rfl, rfl⟩))
    go_ret
    exact ⟨ret_bool (by simp [numOk, h']), rfl⟩
theorem implNumberOk_any (n : Int) (w : World) : Calls Try.prog 77 #[.int .i64 n] w fun r w' => r = .returned (.bool (numOk n)) ∧ w = w' := by
  by_cases h : inB n 1 536870911 = true
  · go_enter Try.func77, Try.ntmps77
    go_wp2_with (first | (go_at_call 47; refine (within_any _ _ _ _).mono ?_; rintro r w1 ⟨rfl, rfl⟩))
    go_ret
    exact ⟨ret_bool (by simp [numOk, h]), rfl⟩
  · have h' : inB n 1 536870911 = false := by simpa using h
    clear h
    go_enter Try.func77, Try.ntmps77
    go_wp2_with (first | (go_at_call 47; refine (within_any _ _ _ _).mono ?_; rintro r w1 ⟨rfl, rfl⟩))
    go_ret
    exact ⟨ret_bool (by simp [numOk, h']), rfl⟩
theorem l6Kind_any (x : Int) (w : World) : Calls Try.prog 75 #[.int .i64 x] w fun r w' => r = .returned (.bool (inB x 1 8)) ∧ w = w' := by
  go_enter Try.func75, Try.ntmps75
  go_wp2_with (first | (go_at_call 43; refine (l1In_any _ _ _ _).mono ?_; rintro r w1 ⟨rfl, rfl⟩))
  go_ret
  exact ⟨rfl, rfl⟩
theorem isKind_any (x : Int) (w : World) : Calls Try.prog 78 #[.int .i64 x] w fun r w' => r = .returned (.bool (inB x 1 8)) ∧ w = w' := by
  go_enter Try.func78, Try.ntmps78
  go_wp2_with (first | (go_at_call 47; refine (within_any _ _ _ _).mono ?_; rintro r w1 ⟨rfl, rfl⟩))
  go_ret
  exact ⟨rfl, rfl⟩
def packOk (f : Fld) : Bool := !(f.packed && (!f.rep || !inB f.kind 1 5))
def msgOk (m : Int) (f : Fld) : Bool := if f.kind = 8 then inB f.msg 0 (m - 1) else f.msg == -1
def fldOk (m : Int) (f : Fld) : Bool := numOk f.number && (inB f.kind 1 8 && (packOk f && msgOk m f))
theorem fldOk_cases (m : Int) (f : Fld) : (fldOk m f = false ∧ (numOk f.number = false ∨ (numOk f.number = true ∧ inB f.kind 1 8 = false))) ∨ (fldOk m f = false ∧ numOk f.number = true ∧ inB f.kind 1 8 = true ∧ f.packed = true ∧ (f.rep = false ∨ f.rep = true ∧ inB f.kind 1 5 = false)) ∨
    (numOk f.number = true ∧ inB f.kind 1 8 = true ∧ (f.packed = false ∨ f.packed = true ∧ f.rep = true ∧ inB f.kind 1 5 = true) ∧ ((f.kind == 8) = true ∧ fldOk m f = inB f.msg 0 (m - 1) ∨ (f.kind == 8) = false ∧ fldOk m f = (f.msg == -1))) := by
  obtain ⟨a, b, c, d, e⟩ := f
  simp only [fldOk, packOk, msgOk]
  cases h1 : numOk a <;> cases h2 : inB b 1 8 <;> cases c <;> cases d <;> cases h3 : inB b 1 5 <;> by_cases h4 : b = 8 <;> simp [h4]
set_option maxHeartbeats 4000000 in
theorem l8FieldOk_any (a : Option Addr) (n cap : Nat) (f : Fld) (w : World) (hn : n ≤ 1048576) :
    Calls Try.prog 44 #[.agg #[.slice a n cap], f.val] w fun r w' => r = .returned (.bool (fldOk n f)) ∧ Below w.heap.size w w' := by
  obtain ⟨q, hq⟩ : ∃ q, fldOk n f = q := ⟨_, rfl⟩
  have HC := fldOk_cases n f
  rw [hq] at HC ⊢
  obtain ⟨a, b, c, d, e⟩ := f
  simp only at HC
  clear hq
  rcases HC with ⟨rfl, h1 | ⟨h1, h2⟩⟩ | ⟨rfl, h1, h2, rfl, rfl | ⟨rfl, h3⟩⟩ | ⟨h1, h2, rfl | ⟨rfl, rfl, h3⟩, ⟨h4, rfl⟩ | ⟨h4, rfl⟩⟩
  all_goals
    go_enter Try.func44, Try.ntmps44
    go_wp2_with (first
      | (go_at_call 73; refine (specNumberOk_any _ _).mono ?_; rintro r w1 ⟨rfl, rfl⟩)
      | (go_at_call 75; refine (l6Kind_any _ _).mono ?_; rintro r w1 ⟨rfl, rfl⟩)
      | (go_at_call 76; refine (specNumeric_any _ _).mono ?_; rintro r w1 ⟨rfl, rfl⟩)
      | (go_at_call 43; refine (l1In_any _ _ _ _).mono ?_; rintro r w1 ⟨rfl, rfl⟩))
    go_ret
    exact ⟨rfl, by ((repeat (first | (with_reducible exact Below.refl _ _) | (with_reducible assumption) | (with_reducible refine Below.alloc ?_ ?_ _) | (with_reducible refine Below.setCell ?_ ?_ _) | (with_reducible refine Below.drew ?_) | (with_reducible refine below_setRow ?_ ?_ _) | (refine Below.trans ?_ (Below.mono (by assumption) ?_)))); all_goals (first | omega | (simp; done) | (simp; omega)))⟩
set_option maxHeartbeats 4000000 in
theorem fieldOk_any (f : Fld) (before m : Int) (w : World) (hm0 : 0 ≤ m) (hm : m ≤ 1048576) :
    Calls Try.prog 42 #[f.val, .int .i64 before, .int .i64 m] w fun r w' => r = .returned (.bool (fldOk m f && decide (before < f.number))) ∧ Below w.heap.size w w' := by
  obtain ⟨q, hq⟩ : ∃ q, fldOk m f = q := ⟨_, rfl⟩
  have HC := fldOk_cases m f
  rw [hq] at HC ⊢
  obtain ⟨a, b, c, d, e⟩ := f
  simp only at HC
  clear hq
  by_cases hb : before < a
  · have hbd : decide (before < a) = true := by simp [hb]
    have hbe : (q && decide (before < a)) = q := by simp [hb]
    simp only [hbe]
    clear hbe
    rcases HC with ⟨rfl, h1 | ⟨h1, h2⟩⟩ | ⟨rfl, h1, h2, rfl, rfl | ⟨rfl, h3⟩⟩ | ⟨h1, h2, rfl | ⟨rfl, rfl, h3⟩, ⟨h4, rfl⟩ | ⟨h4, rfl⟩⟩
    all_goals
      go_enter Try.func42, Try.ntmps42
      go_wp2_with (first
        | (go_at_call 77; refine (implNumberOk_any _ _).mono ?_; rintro r w1 ⟨rfl, rfl⟩)
        | (go_at_call 78; refine (isKind_any _ _).mono ?_; rintro r w1 ⟨rfl, rfl⟩)
        | (go_at_call 79; refine (implNumeric_any _ _).mono ?_; rintro r w1 ⟨rfl, rfl⟩)
        | (go_at_call 47; refine (within_any _ _ _ _).mono ?_; rintro r w1 ⟨rfl, rfl⟩))
      go_ret
      exact ⟨rfl, by ((repeat (first | (with_reducible exact Below.refl _ _) | (with_reducible assumption) | (with_reducible refine Below.alloc ?_ ?_ _) | (with_reducible refine Below.setCell ?_ ?_ _) | (with_reducible refine Below.drew ?_) | (with_reducible refine below_setRow ?_ ?_ _) | (refine Below.trans ?_ (Below.mono (by assumption) ?_)))); all_goals (first | omega | (simp; done) | (simp; omega)))⟩
  · have hbd : decide (before < a) = false := by simp [hb]
    have hbe : (q && decide (before < a)) = false := by simp [hb]
    simp only [hbe]
    clear hbe HC
    have hb2 : a ≤ before := by omega
    cases h1 : numOk a
    all_goals
      go_enter Try.func42, Try.ntmps42
      go_wp2_with (first
        | (go_at_call 77; refine (implNumberOk_any _ _).mono ?_; rintro r w1 ⟨rfl, rfl⟩))
      go_ret
      exact ⟨rfl, by ((repeat (first | (with_reducible exact Below.refl _ _) | (with_reducible assumption) | (with_reducible refine Below.alloc ?_ ?_ _) | (with_reducible refine Below.setCell ?_ ?_ _) | (with_reducible refine Below.drew ?_) | (with_reducible refine below_setRow ?_ ?_ _) | (refine Below.trans ?_ (Below.mono (by assumption) ?_)))); all_goals (first | omega | (simp; done) | (simp; omega)))⟩
def fldsOk (m : Int) : Int → List Fld → Bool
  | _, [] => true
  | b, f :: fs => (fldOk m f && decide (b < f.number)) && fldsOk m f.number fs
def shpHead (b : Int) (x : Shp) : Bool := decide (b < x.id) && (decide (x.id ≤ 99) && decide (x.flds.length ≤ 8))
def shpsOk (m : Int) : Int → List Shp → Bool
  | _, [] => true
  | b, x :: xs => shpHead b x && (fldsOk m 0 x.flds && shpsOk m x.id xs)
def schOk (xs : List Shp) : Bool := decide (xs.length ≤ 6) && shpsOk xs.length 0 xs
theorem drop_cons {α : Type} {xs : List α} {k : Nat} {e : α} (h : xs[k]? = some e) : xs.drop k = e :: xs.drop (k + 1) := by
  have hk : k < xs.length := by
    rcases Nat.lt_or_ge k xs.length with h1 | h1
    · exact h1
    · rw [List.getElem?_eq_none h1] at h; simp at h
  rw [List.getElem?_eq_getElem hk] at h
  simp only [Option.some.injEq] at h
  rw [← h]; exact List.drop_eq_getElem_cons hk
structure Pl where
  root : Int
  deep : Int
  most : Int
  deriving DecidableEq
@[reducible] def Pl.val (p : Pl) (sh : Value) : Value := .agg #[sh, .int .i64 p.root, .int .i64 p.deep, .int .i64 p.most]
@[reducible] def fldCK : List CK := [CK.int .i64, .int .i64, .bool, .bool, .int .i64]
@[reducible] def shpCK : List CK := [CK.int .i64, .sl fldCK]
structure ShArg where
  a : Option Addr
  cap : Nat
  xs : List Shp
@[reducible] def ShArg.sl (x : ShArg) : Value := .slice x.a x.xs.length x.cap
structure ShArg.ok (x : ShArg) (w : World) : Prop where
  sh : Shs w x.a x.xs
  each : ∀ e ∈ x.xs, ShpOk e
  le : x.xs.length ≤ x.cap
  cap : x.cap ≤ maxLen
section
variable {H : Type} {enc : TypeId × Value → H} {W : World} {base : Nat} {sp : Nat → Bool} {v : Value} {d : DataW H} {ps : List MemPlace}
end
structure Lvl where
  msg : Int
  left : Int
  deriving DecidableEq
@[reducible] def Lvl.cs (f : Lvl) : List Value := [.int .i64 f.msg, .int .i64 f.left]
@[reducible] def Lvl.val (f : Lvl) : Value := .agg #[.int .i64 f.msg, .int .i64 f.left]
structure Lvl.ok (f : Lvl) : Prop where
  msg : W64 f.msg
  left : W64 f.left
@[reducible] def Lvls := Sl 2 Lvl.cs
theorem Lvls.at {w : World} {a : Option Addr} {xs : List Lvl} (h : Lvls w a xs) {k : Nat} {e : Lvl} (he : xs[k]? = some e) :
    ∃ b off, a = some ⟨b, off, none⟩ ∧ b < w.heap.size ∧ w.cell? ⟨b, off + k * 2, none⟩ = some (.int .i64 e.msg) ∧ w.cell? ⟨b, off + k * 2 + 1, none⟩ = some (.int .i64 e.left) := by
  obtain ⟨b, off, ha, hlt, hc⟩ := h k e he
  exact ⟨b, off, ha, hlt, hc 0 _ rfl, hc 1 _ rfl⟩
structure Ut where
  want : Int
  low : Int
  high : Int
  deriving DecidableEq
@[reducible] def Ut.val (u : Ut) : Value := .agg #[.int .i64 u.want, .int .i64 u.low, .int .i64 u.high]
structure Dc where
  p : Pl
  mode : Int
  bits : Int
  have_ : Int
  start : Int
  at_ : Int
  field : Fld
  wire : Int
  want : Int
  utf : Ut
  end_ : Ev
  deriving DecidableEq
@[reducible] def Dc.val (d : Dc) (sh st : Value) : Value := .agg #[sh, .int .i64 d.p.root, .int .i64 d.p.deep, .int .i64 d.p.most, .int .i64 d.mode, st, .int .u64 d.bits, .int .i64 d.have_, .int .i64 d.start, .int .i64 d.at_, .int .i64 d.field.number, .int .i64 d.field.kind, .bool d.field.rep, .bool d.field.packed, .int .i64 d.field.msg, .int .i64 d.wire, .int .i64 d.want, .int .i64 d.utf.want, .int .i64 d.utf.low, .int .i64 d.utf.high, .int .i64 d.end_.kind, .int .i64 d.end_.field, .int .u64 d.end_.bits, .int .i64 d.end_.len, .string d.end_.text, .int .i64 d.end_.code, .int .i64 d.end_.at_]
@[reducible] def Dc.cl (d : Dc) (sh st : Value) : List Value := [sh, .int .i64 d.p.root, .int .i64 d.p.deep, .int .i64 d.p.most, .int .i64 d.mode, st, .int .u64 d.bits, .int .i64 d.have_, .int .i64 d.start, .int .i64 d.at_, .int .i64 d.field.number, .int .i64 d.field.kind, .bool d.field.rep, .bool d.field.packed, .int .i64 d.field.msg, .int .i64 d.wire, .int .i64 d.want, .int .i64 d.utf.want, .int .i64 d.utf.low, .int .i64 d.utf.high, .int .i64 d.end_.kind, .int .i64 d.end_.field, .int .u64 d.end_.bits, .int .i64 d.end_.len, .string d.end_.text, .int .i64 d.end_.code, .int .i64 d.end_.at_]
structure Dc.ok (d : Dc) : Prop where
  root : W64 d.p.root
  deep : W64 d.p.deep
  most : W64 d.p.most
  mode : W64 d.mode
  bits : WU64 d.bits
  have_ : W64 d.have_
  start : W64 d.start
  at_ : W64 d.at_
  field : d.field.ok
  wire : W64 d.wire
  want : W64 d.want
  uwant : W64 d.utf.want
  ulow : W64 d.utf.low
  uhigh : W64 d.utf.high
  end_ : d.end_.ok
@[reducible] def lvlCK : List CK := [CK.int .i64, .int .i64]
structure DcArg where
  d : Dc
  s : ShArg
  l : SlArg Lvl
@[reducible] def DcArg.val (x : DcArg) : Value := x.d.val x.s.sl x.l.val
structure DcArg.ok (x : DcArg) (w : World) : Prop where
  d : x.d.ok
  s : x.s.ok w
  l : x.l.ok 2 Lvl.cs Lvl.ok w
@[reducible] def bv (l : List UInt8) : List Value := l.map fun b => Value.int .u8 (b.toNat : Int)
structure Chg (lo hi : Nat) (w w' : World) : Prop where
  os : w'.os = w.os
  tape : w'.tape = w.tape
  output : w'.output = w.output
  size : w.heap.size ≤ w'.heap.size
  block : ∀ k, k < w.heap.size → (k < lo ∨ hi ≤ k) → w'.heap[k]? = w.heap[k]?
theorem Chg.refl (lo hi : Nat) (w : World) : Chg lo hi w w := ⟨rfl, rfl, rfl, Nat.le_refl _, fun _ _ _ => rfl⟩
theorem Chg.trans {lo hi : Nat} {a b c : World} (h : Chg lo hi a b) (k : Chg lo hi b c) : Chg lo hi a c :=
  ⟨k.os.trans h.os, k.tape.trans h.tape, k.output.trans h.output, Nat.le_trans h.size k.size, fun i hi' ho => (k.block i (Nat.lt_of_lt_of_le hi' h.size) ho).trans (h.block i hi' ho)⟩
theorem Chg.of_below {lo hi : Nat} {w w' : World} (h : Below w.heap.size w w') : Chg lo hi w w' := ⟨h.os, h.tape, h.output, h.size, fun k hk _ => h.block k hk⟩
theorem Chg.below {lo hi : Nat} {w w' : World} (h : Chg lo hi w w') (hl : lo ≤ w.heap.size) : Below lo w w' := ⟨h.os, h.tape, h.output, h.size, fun k hk => h.block k (by omega) (.inl hk)⟩
theorem Chg.setCell {lo hi b o : Nat} {w : World} (h1 : lo ≤ b) (h2 : b < hi) (u : Value) : Chg lo hi w (w.setCell ⟨b, o, none⟩ u) :=
  ⟨rfl, rfl, rfl, by simp [World.setCell], fun k _ hk => Below.heap_setCell w ⟨b, o, none⟩ u k (by simp only; omega)⟩
structure OwnR (w : World) (lo hi : Nat) (a : Option Addr) (n : Nat) (L : List Value) : Prop where
  len : L.length = n
  own : n = 0 ∨ ∃ g, a = some ⟨g, 0, none⟩ ∧ lo ≤ g ∧ g < hi ∧ g < w.heap.size ∧ (∀ (j : Nat) (u : Value), L[j]? = some u → w.cell? ⟨g, j, none⟩ = some u) ∧ (∀ j : Nat, w.frozen? ⟨g, j, none⟩ = false)
theorem OwnR.of_owns {w : World} {base n cap : Nat} {t : TypeId} {a : Option Addr} {L : List Value} (h : w.ownsRow base t 1 (.slice a n cap) n L) : OwnR w base w.heap.size a n L := by
  have hlen : L.length = n := by have := h.1; omega
  refine ⟨hlen, ?_⟩
  have hl := h.lt
  have hc : ∀ g, (Value.slice a n cap).ownBlock = some g → _ := fun g hg => World.ownsRow.cells h hg
  rcases h.2 with ⟨e, h0⟩ | ⟨g, cap', cur, e, hb, hh, _⟩
  · exact .inl h0
  · simp only [Value.slice.injEq] at e
    obtain ⟨rfl, _, rfl⟩ := e
    have h1 := hl g rfl
    exact .inr ⟨g, rfl, h1.1, h1.2, h1.2, fun j u hu => by have := hc g rfl j u hu; rwa [Addr.add_lit, Nat.zero_add] at this, h.frozenAt⟩
theorem OwnR.chg {w w' : World} {lo hi lo' hi' n : Nat} {a : Option Addr} {L : List Value} (h : OwnR w lo hi a n L) (hc : Chg lo' hi' w w') (hd : hi ≤ lo' ∨ hi' ≤ lo) : OwnR w' lo hi a n L := by
  refine ⟨h.len, ?_⟩
  rcases h.own with h0 | ⟨g, ha, h1, h2, h3, h4, h5⟩
  · exact .inl h0
  · have hb := hc.block g h3 (by omega)
    exact .inr ⟨g, ha, h1, h2, Nat.lt_of_lt_of_le h3 hc.size, fun j u hu => (World.cell?_of_block (a := ⟨g, j, none⟩) hb).trans (h4 j u hu), fun j => (World.frozen?_of_block (a := ⟨g, j, none⟩) hb).trans (h5 j)⟩
theorem OwnR.keep {w w' : World} {lo hi n : Nat} {a : Option Addr} {L : List Value} (h : OwnR w lo hi a n L) (hb : Below w.heap.size w w') : OwnR w' lo hi a n L :=
  h.chg (Chg.of_below (lo := hi) (hi := hi) hb) (.inl (Nat.le_refl _))
theorem OwnR.store {w : World} {lo hi n g j : Nat} {L : List Value} (h : OwnR w lo hi (some ⟨g, 0, none⟩) n L) (hj : j < n) (u : Value) : OwnR (w.setCell ⟨g, j, none⟩ u) lo hi (some ⟨g, 0, none⟩) n (L.set j u) := by
  refine ⟨by rw [List.length_set, h.len], ?_⟩
  rcases h.own with h0 | ⟨g', ha, h1, h2, h3, h4, h5⟩
  · omega
  · simp only [Option.some.injEq, Addr.mk.injEq, and_true] at ha
    subst ha
    refine .inr ⟨g, rfl, h1, h2, by simpa [World.setCell] using h3, fun i v hv => ?_, fun i => by rw [World.frozen?_setCell]; exact h5 i⟩
    rw [List.getElem?_set] at hv
    by_cases hij : j = i
    · subst hij
      rw [if_pos rfl, if_pos (by rw [h.len]; exact hj)] at hv
      simp only [Option.some.injEq] at hv
      subst hv
      exact World.cell?_setCell_same _ _ _ (h4 j L[j]! (by rw [List.getElem?_eq_getElem (by rw [h.len]; exact hj)]; simp [h.len, hj]))
    · rw [if_neg hij] at hv
      rw [World.cell?_setCell_other _ _ _ _ (by simp [hij])]
      exact h4 i v hv
theorem OwnR.sl {α : Type} {cs : α → List Value} {w : World} {lo hi n : Nat} {a : Option Addr} {xs : List α} (hcs : ∀ x, (cs x).length = 1) (h : OwnR w lo hi a n (xs.flatMap cs)) : Sl 1 cs w a xs := by
  intro k e he
  have hk : k < xs.length := by
    rcases Nat.lt_or_ge k xs.length with h' | h'
    · exact h'
    · rw [List.getElem?_eq_none h'] at he; simp at he
  rcases h.own with h0 | ⟨g, ha, h1, h2, h3, h4, h5⟩
  · have := h.len; rw [flatMap_len hcs] at this; omega
  · refine ⟨g, 0, ha, h3, fun j u hu => ?_⟩
    have hj : j = 0 := by
      rcases Nat.lt_or_ge j 1 with h' | h'
      · omega
      · rw [List.getElem?_eq_none (by rw [hcs]; exact h')] at hu; simp at hu
    subst hj
    have := h4 (k * 1 + 0) u (by rw [flatMap_at hcs xs k 0 e he (by omega)]; exact hu)
    simpa using this
def mtF : Nat → Nat → List UInt8
  | 0, _ => []
  | f + 1, k => if k = 0 then [] else mtF f (k / 10) ++ [UInt8.ofNat (48 + k % 10)]
def mt (k : Nat) : ByteArray := ⟨#[109]⟩ ++ ⟨(mtF k k).toArray⟩
theorem OwnR.slK {α : Type} {cs : α → List Value} {sz : Nat} {w : World} {lo hi n : Nat} {a : Option Addr} {xs : List α} (hsz : 0 < sz) (hcs : ∀ x, (cs x).length = sz) (h : OwnR w lo hi a (n * sz) (xs.flatMap cs)) : Sl sz cs w a xs := by
  intro k e he
  have hk : k < xs.length := by
    rcases Nat.lt_or_ge k xs.length with h' | h'
    · exact h'
    · rw [List.getElem?_eq_none h'] at he; simp at he
  have hlen := h.len
  rw [flatMap_len hcs] at hlen
  rcases h.own with h0 | ⟨g, ha, h1, h2, h3, h4, h5⟩
  · have : 0 < xs.length * sz := Nat.mul_pos (by omega) hsz
    omega
  · refine ⟨g, 0, ha, h3, fun j u hu => ?_⟩
    have hj : j < sz := by
      rcases Nat.lt_or_ge j sz with h' | h'
      · exact h'
      · rw [List.getElem?_eq_none (by rw [hcs]; exact h')] at hu; simp at hu
    have := h4 (k * sz + j) u (by rw [flatMap_at hcs xs k j e he hj]; exact hu)
    simpa using this
theorem Chg.widen {lo hi g e : Nat} {w w' : World} (h : Chg g e w w') (h1 : lo ≤ g) (h2 : e ≤ hi) : Chg lo hi w w' :=
  ⟨h.os, h.tape, h.output, h.size, fun k hk ho => h.block k hk (by omega)⟩
theorem OwnR.widen {w : World} {lo hi g e n : Nat} {a : Option Addr} {L : List Value} (h : OwnR w g e a n L) (h1 : lo ≤ g) (h2 : e ≤ hi) : OwnR w lo hi a n L := by
  refine ⟨h.len, ?_⟩
  rcases h.own with h0 | ⟨b, ha, k1, k2, k3, k4, k5⟩
  · exact .inl h0
  · exact .inr ⟨b, ha, by omega, by omega, k3, k4, k5⟩
theorem OwnR.chg1 {w w' : World} {lo hi g e n : Nat} {a : Option Addr} {L : List Value} (h : OwnR w lo hi a n L) (hc : Chg g e w w') (hd : ∀ b, a = some ⟨b, 0, none⟩ → n ≠ 0 → b < g ∨ e ≤ b) : OwnR w' lo hi a n L := by
  refine ⟨h.len, ?_⟩
  by_cases hn : n = 0
  · exact .inl hn
  rcases h.own with h0 | ⟨b, ha, h1, h2, h3, h4, h5⟩
  · exact .inl h0
  · have hb := hc.block b h3 (hd b ha hn)
    exact .inr ⟨b, ha, h1, h2, Nat.lt_of_lt_of_le h3 hc.size, fun j u hu => (World.cell?_of_block (a := ⟨b, j, none⟩) hb).trans (h4 j u hu), fun j => (World.frozen?_of_block (a := ⟨b, j, none⟩) hb).trans (h5 j)⟩
structure OwnSh (w : World) (lo hi : Nat) (a : Option Addr) (n : Nat) (rs : List ShR) (xs : List Shp) : Prop where
  le : lo ≤ hi
  len : rs.length = n
  lenx : xs.length = n
  outer : OwnR w lo hi a (n * 2) (rs.flatMap ShR.cs)
  each : ∀ (k : Nat) (r : ShR) (x : Shp), rs[k]? = some r → xs[k]? = some x → r.id = x.id ∧ r.n = x.flds.length ∧ OwnR w lo hi r.a (r.n * 5) (x.flds.flatMap Fld.cs)
  apart : ∀ (i j : Nat) (r s : ShR) (g : Nat), rs[i]? = some r → rs[j]? = some s → i ≠ j → r.n ≠ 0 → s.n ≠ 0 → r.a = some ⟨g, 0, none⟩ → s.a ≠ some ⟨g, 0, none⟩
  off : ∀ (i : Nat) (r : ShR) (g : Nat), rs[i]? = some r → r.n ≠ 0 → a = some ⟨g, 0, none⟩ → r.a ≠ some ⟨g, 0, none⟩
def ShBlk (a : Option Addr) (n : Nat) (rs : List ShR) (b : Nat) : Prop := n ≠ 0 ∧ a = some ⟨b, 0, none⟩ ∨ ∃ (i : Nat) (r : ShR), rs[i]? = some r ∧ r.n ≠ 0 ∧ r.a = some ⟨b, 0, none⟩
section
variable {w w' : World} {lo hi n : Nat} {a : Option Addr} {rs : List ShR} {xs : List Shp}
theorem OwnSh.at (h : OwnSh w lo hi a n rs xs) {k : Nat} (hk : k < n) : ∃ r x, rs[k]? = some r ∧ xs[k]? = some x :=
  ⟨_, _, List.getElem?_eq_getElem (by rw [h.len]; exact hk), List.getElem?_eq_getElem (by rw [h.lenx]; exact hk)⟩
theorem OwnSh.shs (h : OwnSh w lo hi a n rs xs) : Shs w a xs := by
  intro k x hx
  have hk : k < n := by
    rcases Nat.lt_or_ge k xs.length with h' | h'
    · rw [← h.lenx]; exact h'
    · rw [List.getElem?_eq_none h'] at hx; simp at hx
  obtain ⟨r, x', hr, hx'⟩ := h.at hk
  rw [hx] at hx'; simp at hx'; subst hx'
  obtain ⟨e1, e2, e3⟩ := h.each k r x hr hx
  obtain ⟨b, off, ha, hlt, hc⟩ := OwnR.slK (by omega) shR_len h.outer k r hr
  have c0 := hc 0 _ rfl
  have c1 := hc 1 _ rfl
  rw [e1] at c0
  rw [e2] at c1
  exact ⟨b, off, r.a, r.cap, ha, hlt, c0, c1, by rw [e2] at e3; exact OwnR.slK (by omega) fld_len e3⟩
theorem OwnSh.chgB (h : OwnSh w lo hi a n rs xs) {g e : Nat} (hc : Chg g e w w') (hd : ∀ b, ShBlk a n rs b → b < g ∨ e ≤ b) : OwnSh w' lo hi a n rs xs where
  le := h.le
  len := h.len
  lenx := h.lenx
  outer := h.outer.chg1 hc fun b hb hn => hd b (.inl ⟨by omega, hb⟩)
  each k r x hr hx := ⟨(h.each k r x hr hx).1, (h.each k r x hr hx).2.1, (h.each k r x hr hx).2.2.chg1 hc fun b hb hn => hd b (.inr ⟨k, r, hr, by omega, hb⟩)⟩
  apart := h.apart
  off := h.off
theorem OwnSh.blk (h : OwnSh w lo hi a n rs xs) {b : Nat} (hb : ShBlk a n rs b) : lo ≤ b ∧ b < hi := by
  rcases hb with ⟨hn, ha⟩ | ⟨i, r, hr, hn, ha⟩
  · rcases h.outer.own with h0 | ⟨g, hg, h1, h2, _⟩
    · omega
    · rw [hg] at ha; simp at ha; subst ha; exact ⟨h1, h2⟩
  · have hi' : i < n := by
      rcases Nat.lt_or_ge i rs.length with h' | h'
      · rw [← h.len]; exact h'
      · rw [List.getElem?_eq_none h'] at hr; simp at hr
    obtain ⟨x, hx⟩ : ∃ x, xs[i]? = some x := ⟨_, List.getElem?_eq_getElem (by rw [h.lenx]; exact hi')⟩
    rcases (h.each i r x hr hx).2.2.own with h0 | ⟨g, hg, h1, h2, _⟩
    · omega
    · rw [hg] at ha; simp at ha; subst ha; exact ⟨h1, h2⟩
theorem OwnSh.chg (h : OwnSh w lo hi a n rs xs) {lo' hi' : Nat} (hc : Chg lo' hi' w w') (hd : hi ≤ lo' ∨ hi' ≤ lo) : OwnSh w' lo hi a n rs xs :=
  h.chgB hc fun b hb => by have := h.blk hb; omega
theorem OwnSh.keep (h : OwnSh w lo hi a n rs xs) (hb : Below w.heap.size w w') : OwnSh w' lo hi a n rs xs :=
  h.chg (Chg.of_below (lo := hi) (hi := hi) hb) (.inl (Nat.le_refl _))
end
theorem shr_set : ∀ (rs : List ShR) (k : Nat) (r : ShR) (q : Int), rs[k]? = some r → (rs.flatMap ShR.cs).set (k * 2) (.int .i64 q) = (rs.set k ⟨q, r.a, r.n, r.cap⟩).flatMap ShR.cs
  | [], k, r, q, h => by simp at h
  | s :: rs, 0, r, q, h => by simp at h; subst h; simp [List.flatMap_cons]
  | s :: rs, k + 1, r, q, h => by
    have ih := shr_set rs k r q (by simpa using h)
    rw [show (k + 1) * 2 = k * 2 + 1 + 1 by omega]
    simp only [List.flatMap_cons, List.cons_append, List.nil_append, List.set_cons_succ, ih]
theorem OwnSh.put {w w2 : World} {lo hi g n k g1 e1 : Nat} {rs : List ShR} {xs : List Shp} {r : ShR} {x : Shp} {q : Int} {ys : List Fld} (h : OwnSh w lo hi (some ⟨g, 0, none⟩) n rs xs) (hk : k < n) (hr : rs[k]? = some r) (hx : xs[k]? = some x)
    (ho : OwnR w2 g1 e1 r.a (r.n * 5) (ys.flatMap Fld.cs)) (hy : ys.length = r.n) (hc : Chg g1 e1 (w.setCell ⟨g, k * 2, none⟩ (.int .i64 q)) w2) (h1 : lo ≤ g1) (h2 : e1 ≤ hi) (hp : r.n = 0 ∧ e1 = g1 ∨ r.n ≠ 0 ∧ e1 = g1 + 1 ∧ r.a = some ⟨g1, 0, none⟩) :
    OwnSh w2 lo hi (some ⟨g, 0, none⟩) n (rs.set k ⟨q, r.a, r.n, r.cap⟩) (xs.set k ⟨q, ys⟩) := by
  have hset : Chg g (g + 1) w (w.setCell ⟨g, k * 2, none⟩ (.int .i64 q)) := Chg.setCell (Nat.le_refl _) (by omega) _
  have hrs : ∀ (i : Nat) (s : ShR), (rs.set k ⟨q, r.a, r.n, r.cap⟩)[i]? = some s → ∃ s', rs[i]? = some s' ∧ s.a = s'.a ∧ s.n = s'.n ∧ (i = k → s = ⟨q, r.a, r.n, r.cap⟩) ∧ (i ≠ k → s = s') := by
    intro i s hs
    rw [List.getElem?_set] at hs
    by_cases hik : k = i
    · subst hik
      rw [if_pos rfl, if_pos (by rw [h.len]; exact hk)] at hs
      simp at hs; subst hs
      exact ⟨r, hr, rfl, rfl, fun _ => rfl, fun hh => absurd rfl hh⟩
    · rw [if_neg hik] at hs
      exact ⟨s, hs, rfl, rfl, fun hh => absurd hh.symm hik, fun _ => rfl⟩
  refine ⟨h.le, by rw [List.length_set, h.len], by rw [List.length_set, h.lenx], ?_, ?_, ?_, ?_⟩
  · rw [← shr_set rs k r q hr]
    refine (h.outer.store (j := k * 2) (by omega) _).chg1 hc fun b hb hn => ?_
    simp at hb; subst hb
    rcases hp with ⟨_, hp⟩ | ⟨hp0, hp1, hp2⟩
    · omega
    · have := h.off k r g hr hp0 rfl
      by_cases hgg : g = g1
      · subst hgg; exact absurd hp2 this
      · omega
  · intro i s y hs hyy
    obtain ⟨s', hs', e1', e2', e3', e4'⟩ := hrs i s hs
    rw [List.getElem?_set] at hyy
    by_cases hik : k = i
    · subst hik
      rw [if_pos rfl, if_pos (by rw [h.lenx]; exact hk)] at hyy
      simp at hyy; subst hyy
      have e := e3' rfl
      subst e
      exact ⟨rfl, hy.symm, ho.widen h1 h2⟩
    · rw [if_neg hik] at hyy
      have e := e4' (fun hh => hik hh.symm)
      subst e
      obtain ⟨f1, f2, f3⟩ := h.each i s y hs' hyy
      refine ⟨f1, f2, (f3.chg1 hset fun b hb hn => ?_).chg1 hc fun b hb hn => ?_⟩
      · have := h.off i s b hs' (by omega)
        by_cases hbg : b = g
        · subst hbg; exact absurd hb (this rfl)
        · omega
      · rcases hp with ⟨_, hp⟩ | ⟨hp0, hp1, hp2⟩
        · omega
        · by_cases hbg : b = g1
          · subst hbg; exact absurd hp2 (h.apart i k s r b hs' hr (fun hh => hik hh.symm) (by omega) hp0 hb)
          · omega
  · intro i j s t b hs ht hij hn hn' ha
    obtain ⟨s', hs', f1, f2, _⟩ := hrs i s hs
    obtain ⟨t', ht', f3, f4, _⟩ := hrs j t ht
    rw [f3]
    exact h.apart i j s' t' b hs' ht' hij (by rw [← f2]; exact hn) (by rw [← f4]; exact hn') (by rw [← f1]; exact ha)
  · intro i s b hs hn ha
    obtain ⟨s', hs', f1, f2, _⟩ := hrs i s hs
    rw [f1]
    exact h.off i s' b hs' (by rw [← f2]; exact hn) ha
def kS (k : Nat) (xs : List Shp) (i : Nat) : Nat := k + i + 5 * fldSum (xs.take i)
structure ChgB (P : Nat → Prop) (w w' : World) : Prop where
  os : w'.os = w.os
  tape : w'.tape = w.tape
  output : w'.output = w.output
  size : w.heap.size ≤ w'.heap.size
  block : ∀ k, k < w.heap.size → ¬ P k → w'.heap[k]? = w.heap[k]?
theorem ChgB.refl (P : Nat → Prop) (w : World) : ChgB P w w := ⟨rfl, rfl, rfl, Nat.le_refl _, fun _ _ _ => rfl⟩
theorem ChgB.trans {P : Nat → Prop} {a b c : World} (h : ChgB P a b) (k : ChgB P b c) : ChgB P a c :=
  ⟨k.os.trans h.os, k.tape.trans h.tape, k.output.trans h.output, Nat.le_trans h.size k.size, fun i hi' ho => (k.block i (Nat.lt_of_lt_of_le hi' h.size) ho).trans (h.block i hi' ho)⟩
theorem OwnR.chgB {P : Nat → Prop} {w w' : World} {lo hi n : Nat} {a : Option Addr} {L : List Value} (h : OwnR w lo hi a n L) (hc : ChgB P w w') (hd : ∀ b, a = some ⟨b, 0, none⟩ → n ≠ 0 → ¬ P b) : OwnR w' lo hi a n L := by
  refine ⟨h.len, ?_⟩
  by_cases hn : n = 0
  · exact .inl hn
  rcases h.own with h0 | ⟨b, ha, h1, h2, h3, h4, h5⟩
  · exact .inl h0
  · have hb := hc.block b h3 (hd b ha hn)
    exact .inr ⟨b, ha, h1, h2, Nat.lt_of_lt_of_le h3 hc.size, fun j u hu => (World.cell?_of_block (a := ⟨b, j, none⟩) hb).trans (h4 j u hu), fun j => (World.frozen?_of_block (a := ⟨b, j, none⟩) hb).trans (h5 j)⟩
def SameR (rs rs' : List ShR) : Prop := ∀ (i : Nat) (r' : ShR), rs'[i]? = some r' → ∃ r, rs[i]? = some r ∧ r'.a = r.a ∧ r'.n = r.n
theorem SameR.refl (rs : List ShR) : SameR rs rs := fun i r h => ⟨r, h, rfl, rfl⟩
theorem SameR.blk {rs rs' : List ShR} (h : SameR rs rs') {a : Option Addr} {n b : Nat} (hb : ShBlk a n rs' b) : ShBlk a n rs b := by
  rcases hb with hb | ⟨i, r, hr, hn, ha⟩
  · exact .inl hb
  · obtain ⟨r0, h0, h1, h2⟩ := h i r hr
    exact .inr ⟨i, r0, h0, by omega, by rw [← h1]; exact ha⟩
theorem SameR.set {rs rs' : List ShR} (h : SameR rs rs') {k : Nat} {r : ShR} (hr : rs'[k]? = some r) (q : Int) : SameR rs (rs'.set k ⟨q, r.a, r.n, r.cap⟩) := by
  intro i s hs
  rw [List.getElem?_set] at hs
  by_cases hik : k = i
  · subst hik
    rw [if_pos rfl] at hs
    split at hs
    · simp at hs; subst hs
      obtain ⟨r0, h0, h1, h2⟩ := h k r hr
      exact ⟨r0, h0, h1, h2⟩
    · simp at hs
  · rw [if_neg hik] at hs
    exact h i s hs
theorem own_built (w : World) (t : TypeId) (sz : Nat) : (w.alloc (.cells #[] t)).ownsRow w.heap.size t sz (.slice (some ⟨w.heap.size, 0, none⟩) 0 0) 0 [] :=
  ⟨by simp, .inr ⟨w.heap.size, 0, #[], rfl, Nat.le_refl _, heap_nth0 w _, Nat.le_refl _, Nat.zero_le _, by simp, by simp⟩⟩
theorem own_sh {w : World} {base n size : Nat} {t : TypeId} {v : Value} {L : List Value} (h : w.ownsRow base t size v n L) : ∃ a cap, v = .slice a n cap ∧ w.ownsRow base t size (.slice a n cap) n L := by
  rcases h.2 with ⟨rfl, h0⟩ | ⟨g, cap', cur, rfl, _⟩
  · subst h0; exact ⟨none, 0, rfl, h⟩
  · exact ⟨_, _, rfl, h⟩
def ShsC (w : World) (a : Option Addr) (xs : List Shp) : Prop :=
  ∀ (k : Nat) (x : Shp), xs[k]? = some x → ∃ b off a' cap', a = some ⟨b, off, none⟩ ∧ b < w.heap.size ∧ w.cell? ⟨b, off + k * 2, none⟩ = some (.int .i64 x.id) ∧ w.cell? ⟨b, off + k * 2 + 1, none⟩ = some (.slice a' x.flds.length cap') ∧ Flds w a' x.flds ∧ (a' = none → cap' = 0)
theorem ShsC.shs {w : World} {a : Option Addr} {xs : List Shp} (h : ShsC w a xs) : Shs w a xs := fun k x hx => by
  obtain ⟨b, off, a', cap', h1, h2, h3, h4, h5, _⟩ := h k x hx
  exact ⟨b, off, a', cap', h1, h2, h3, h4, h5⟩
theorem ShsC.keep {w w' : World} {a : Option Addr} {xs : List Shp} (h : ShsC w a xs) (hb : Below w.heap.size w w') : ShsC w' a xs := fun k x hx => by
  obtain ⟨b, off, a', cap', h1, h2, h3, h4, h5, h6⟩ := h k x hx
  exact ⟨b, off, a', cap', h1, Nat.lt_of_lt_of_le h2 hb.size, (hb.cell (p := ⟨b, _, none⟩) h2).trans h3, (hb.cell (p := ⟨b, _, none⟩) h2).trans h4, Sl.keep h5 hb, h6⟩
theorem OwnShs.push {w w' : World} {base n : Nat} {T TF : TypeId} {v v' : Value} {rs : List ShR} {xs : List Shp} {r : ShR} {x : Shp} (h : OwnShs w base T TF v n rs xs) (hne : T ≠ TF) (hr : RowIs w base TF r x)
    (hf : ∀ (i : Nat) (s : ShR), rs[i]? = some s → ∀ g, (Value.slice s.a s.n s.cap).ownBlock = some g → (Value.slice r.a r.n r.cap).ownBlock ≠ some g)
    (ho : w'.ownsRow base T 2 v' (n + 1) (rs.flatMap ShR.cs ++ r.cs)) (hg : w.grownBy w' v.ownBlock) : OwnShs w' base T TF v' (n + 1) (rs ++ [r]) (xs ++ [x]) := by
  have keep : ∀ (s : ShR) (y : Shp), RowIs w base TF s y → RowIs w' base TF s y := by
    intro s y hs
    refine ⟨hs.1, hs.2.1, hs.2.2.kept hg ?_⟩
    cases hb : (Value.slice s.a s.n s.cap).ownBlock with
    | none => exact .inl rfl
    | some g =>
      refine .inr (fun hv => ?_)
      obtain ⟨a0, cap0, rfl, ho0⟩ := own_sh h.outer
      rcases hs.2.2.2 with ⟨e, _⟩ | ⟨g', c', cur, e, _, hh, _⟩
      · rw [e] at hb; simp [Value.ownBlock] at hb
      · rcases ho0.2 with ⟨e2, _⟩ | ⟨g2, c2, cur2, e2, _, hh2, _⟩
        · rw [e2] at hv; simp [Value.ownBlock] at hv
        · rw [e] at hb; rw [e2] at hv
          simp only [Value.ownBlock, Option.some.injEq] at hb hv
          subst hb
          rw [← hv, hh] at hh2
          simp only [Option.some.injEq, Obj.cells.injEq] at hh2
          exact hne hh2.2.1.symm
  refine ⟨by simp [h.len], by simp [h.lenx], by rw [List.flatMap_append]; simpa using ho, ?_, h.apart.snoc hf⟩
  intro k s y hs hy
  rcases Nat.lt_trichotomy k n with hk | hk | hk
  · rw [List.getElem?_append_left (by rw [h.len]; exact hk)] at hs
    rw [List.getElem?_append_left (by rw [h.lenx]; exact hk)] at hy
    exact keep s y (h.each k s y hs hy)
  · rw [List.getElem?_append_right (by rw [h.len]; omega), h.len, hk] at hs
    rw [List.getElem?_append_right (by rw [h.lenx]; omega), h.lenx, hk] at hy
    simp at hs hy; subst hs; subst hy
    exact keep _ _ hr
  · rw [List.getElem?_eq_none (by simp [h.len]; omega)] at hs; simp at hs
theorem OwnShs.nil (w : World) (base : Nat) (T TF : TypeId) : OwnShs w base T TF (.slice none 0 0) 0 [] [] :=
  ⟨rfl, rfl, World.ownsRow_nil _ _ _ _, fun k r x h => by simp at h, Apart.nil⟩
section
variable {P : Program} {ops : Array Oper} {Q : Exit → Act → World → Prop} {md : Region.Mode} {S : World → Prop} {D : Nat → Bool}
def wpTill (P : Program) (md : Region.Mode) (ops : Array Oper) (Q : Exit → Act → World → Prop) (S : World → Prop) (D : Nat → Bool) : Nat → Array Bool → Act → World → Prop
  | 0, listed, a, w => Region.ready md ops listed = [] ∧ Q .normal a w
  | f + 1, listed, a, w => (Region.ready md ops listed = [] → Q .normal a w) ∧
      ∀ i ∈ Region.ready md ops listed, wpOp P ops Q i (fun a' w' => (D i = false → S w') ∧ wpTill P md ops Q S D f (listed.setIfInBounds i true) a' w') a w
theorem wpTill_any : ∀ (f : Nat) (listed : Array Bool) (a : Act) (w : World), wpTill P md ops Q S D f listed a w → wpAny P md ops Q f listed a w
  | 0, _, _, _, h => h
  | f + 1, _, _, _, h => ⟨h.1, fun i hi => wpOp_mono (fun a' w' g => wpTill_any f _ a' w' g.2) (h.2 i hi)⟩
theorem ready_nowait {listed : Array Bool} {i j : Nat} {oj : Oper} (hi : i ∈ Region.ready md ops listed) (hj : j ∈ Region.ready md ops listed) (hoj : ops[j]? = some oj) : ∀ e ∈ oj.after, Region.binds md e = true → e.on ≠ i := by
  intro e he hb heq
  obtain ⟨_, o, ho, hall⟩ := mem_ready.1 hj
  rw [hoj] at ho
  obtain rfl := Option.some.inj ho
  have h1 := hall e he hb
  have h0 := (mem_ready.1 hi).1
  rw [heq] at h1
  rcases Nat.lt_or_ge i listed.size with h' | h'
  · simp [h'] at h0 h1; rw [h0] at h1; cases h1
  · simp [Array.getElem?_eq_none h'] at h1
def waits (md : Region.Mode) (ops : Array Oper) (D : Nat → Bool) (i : Nat) : Bool :=
  (List.range ops.size).all fun j => !D j || (match ops[j]? with | some o => o.after.any fun e => Region.binds md e && e.on == i | none => true)
theorem waits_spec {i j : Nat} {oj : Oper} (h : waits md ops D i = true) (hoj : ops[j]? = some oj) (hD : D j = true) : ∃ e ∈ oj.after, Region.binds md e = true ∧ e.on = i := by
  have hj : j < ops.size := by
    rcases Nat.lt_or_ge j ops.size with h' | h'
    · exact h'
    · rw [Array.getElem?_eq_none h'] at hoj; cases hoj
  have h1 := List.all_eq_true.1 h j (List.mem_range.2 hj)
  rw [hD, hoj] at h1
  simp only [Bool.not_true, Bool.false_or, Array.any_eq_true', Bool.and_eq_true, beq_iff_eq] at h1
  exact h1
theorem wpTill_first {i : Nat} {oi : Oper} {v : Value} (hi : ops[i]? = some oi) (hsel : ∀ (j : Nat) (o : Oper) cs b, ops[j]? = some o → o.op ≠ .select cs b)
    (hQ : ∀ c a w, Q (.panic c) (a.put oi.dst v) w → Q (.panic c) a w) (hw : waits md ops D i = true) :
    ∀ (f : Nat) (listed : Array Bool) (a : Act) (w : World),
      (∀ j oj, ops[j]? = some oj → j ≠ i → listed.getD j true = false → (∀ e ∈ oj.after, Region.binds md e = true → e.on ≠ i) → oi.apart ops oj = true) →
      i ∈ Region.ready md ops listed → YieldsIf P ops S oi v a → S w →
      wpTill P md ops Q S D f (listed.setIfInBounds i true) (a.put oi.dst v) w → wpTill P md ops Q S D (f + 1) listed a w := by
  intro f
  induction f with
  | zero =>
    intro listed a w _ hr hy hS H
    refine ⟨fun h => (by rw [h] at hr; cases hr), fun j hj => ?_⟩
    by_cases hji : j = i
    · subst hji; exact hy.wpOp hi hS ⟨fun _ => hS, H⟩
    · have := ready_mono hj hji
      rw [H.1] at this; cases this
  | succ f ih =>
    intro listed a w hfree hr hy hS H
    refine ⟨fun h => (by rw [h] at hr; cases hr), fun j hj => ?_⟩
    by_cases hji : j = i
    · subst hji; exact hy.wpOp hi hS ⟨fun _ => hS, H⟩
    · have h1 := H.2 j (ready_mono hj hji)
      obtain ⟨hun, oj, hoj, _⟩ := mem_ready.1 hj
      have hno := ready_nowait hr hj hoj
      have hDj : D j = false := by
        cases hd : D j with
        | false => rfl
        | true =>
          obtain ⟨e, he, hb, ho⟩ := waits_spec hw hoj hd
          exact absurd ho (hno e he hb)
      have h2 := wpOp_putIf hoj (hfree j oj hoj hji hun hno) (fun cs b => hsel i oi cs b hi) (fun cs b => hsel j oj cs b hoj) hQ hy h1
      refine wpOp_mono (fun a' w' g => ⟨g.2.1, ih (listed.setIfInBounds j true) a' w' ?_ (ready_mono hr (Ne.symm hji)) g.1 (g.2.1 hDj) ?_⟩) h2
      · intro k ok hk hki hunk hnok
        refine hfree k ok hk hki ?_ hnok
        by_cases hjk : j = k
        · subst hjk; exact hun
        · rw [getD_set_ne true hjk] at hunk; exact hunk
      · rw [Array.setIfInBounds_comm _ _ hji]; exact g.2.2
theorem wpTill_take {i : Nat} {oi : Oper} {v : Value} {f : Nat} {listed : Array Bool} {a : Act} {w : World} (hi : ops[i]? = some oi)
    (hs : Region.noSelect ops = true) (hf : Region.free md ops listed i = true) (hr : (Region.ready md ops listed).contains i = true) (hw : waits md ops D i = true)
    (hQ : ∀ c a w, Q (.panic c) (a.put oi.dst v) w → Q (.panic c) a w) (hy : YieldsIf P ops S oi v a) (hS : S w)
    (h : wpTill P md ops Q S D f (listed.setIfInBounds i true) (a.put oi.dst v) w) : wpTill P md ops Q S D (f + 1) listed a w :=
  wpTill_first hi (Region.noSelect_spec hs) hQ hw f listed a w (Region.free_spec hi hf) (by simpa using hr) hy hS h
theorem wpTill_op {i : Nat} {o : Oper} {f : Nat} {listed : Array Bool} {a : Act} {w : World} (hr : Region.ready md ops listed = [i]) (ho : ops[i]? = some o)
    (h : ∀ K' : Act → World → Prop, Shut (∀ a w, (D i = false → S w) → wpTill P md ops Q S D f (listed.setIfInBounds i true) a w → K' a w) → if Region.wanted o (yielded ops a.tmps) = true then Oper.wp P o a w K' Q else K' (a.put o.dst undef) w) :
    wpTill P md ops Q S D (f + 1) listed a w :=
  ⟨fun h0 => (by rw [hr] at h0; cases h0), fun j hj => by
    rw [hr] at hj
    rcases List.mem_cons.1 hj with rfl | hj
    · exact wpOp_step ho (fun K' hK => h K' (fun a w hS hW => hK a w ⟨hS, hW⟩))
    · cases hj⟩
theorem wpTill_two {i j : Nat} {o p : Oper} {f : Nat} {listed : Array Bool} {a : Act} {w : World} (hr : Region.ready md ops listed = [i, j]) (ho : ops[i]? = some o) (hp : ops[j]? = some p)
    (h : ∀ K' : Act → World → Prop, Shut (∀ a w, (D i = false → S w) → wpTill P md ops Q S D f (listed.setIfInBounds i true) a w → K' a w) → if Region.wanted o (yielded ops a.tmps) = true then Oper.wp P o a w K' Q else K' (a.put o.dst undef) w)
    (g : ∀ K' : Act → World → Prop, Shut (∀ a w, (D j = false → S w) → wpTill P md ops Q S D f (listed.setIfInBounds j true) a w → K' a w) → if Region.wanted p (yielded ops a.tmps) = true then Oper.wp P p a w K' Q else K' (a.put p.dst undef) w) :
    wpTill P md ops Q S D (f + 1) listed a w :=
  ⟨fun h0 => (by rw [hr] at h0; cases h0), fun k hk => by
    rw [hr] at hk
    rcases List.mem_cons.1 hk with rfl | hk
    · exact wpOp_step ho (fun K' hK => h K' (fun a w hS hW => hK a w ⟨hS, hW⟩))
    · rcases List.mem_cons.1 hk with rfl | hk
      · exact wpOp_step hp (fun K' hK => g K' (fun a w hS hW => hK a w ⟨hS, hW⟩))
      · cases hk⟩
theorem wpTill_done {listed : Array Bool} {a : Act} {w : World} (hr : Region.ready md ops listed = []) (h : Q .normal a w) : ∀ f, wpTill P md ops Q S D f listed a w
  | 0 => ⟨hr, h⟩
  | _ + 1 => ⟨fun _ => h, by rw [hr]; simp⟩
theorem wp_region_till {id : Nat} {a : Act} {w : World} (S : World → Prop) (D : Nat → Bool) (hm : P.follows .mixedOrders = true)
    (h : wpTill P .any ops Q S D ops.size (Array.replicate ops.size false) a w.drew) : (Code.region id ops true).wp P Q a w :=
  wp_region_any hm (wpTill_any _ _ _ _ h)
theorem step_append_own {o : Oper} {a : Act} {w : World} {K : Act → World → Prop} {E : Prop} (hgd : o.guard = none) (s x : Operand) (t : TypeId)
    (ho : o.op = .call { callee := .builtin .append, args := #[s, x], argTypes := #[t, t] })
    (base : Nat) (e : TypeId) (i : TypeInfo) (z : Value) (size bytes : Nat) (ht : P.underlying t = some (.slice e)) (hi : P.info? e = some i) (hz : i.zero = some z)
    (hsize : i.size = size) (hby : i.bytes = bytes) (hzs : z.cells.size = size) (hsz : 0 < size)
    (v : Value) (n : Nat) (xs : List Value) (hs : a.eval s = v) (hown : w.ownsRow base e size v n xs)
    (ad : Addr) (m c : Nat) (news : List Value) (hx : a.eval x = .slice (some ad) m c) (hl : news.length = m * size) (hnews : ∀ j u, news[j]? = some u → w.cell? (ad.add j) = some u) (h1 : ∀ u ∈ news, u.oneCell' = true)
    (h63 : n + m ≤ maxLen) (hbytes : (n + m) * bytes ≤ 140737488355328) (hbase : base ≤ w.heap.size)
    (h : ∀ v' w', w'.ownsRow base e size v' (n + m) (xs ++ news) → w.grownBy w' v.ownBlock → (v' = .slice none 0 0 ↔ v = .slice none 0 0 ∧ m = 0) → K (a.put o.dst v') w') :
    if Region.wanted o (yielded ops a.tmps) = true then Oper.wp P o a w K Q else E := by
  have hw : Region.wanted o (yielded ops a.tmps) = true := by simp [Region.wanted, hgd]
  rw [if_pos hw]
  exact wp_append_own w s x t ho base e i z size bytes ht hi hz hsize hby hzs hsz v n xs hs hown ad m c news hx hl hnews h1 h63 hbytes hbase fun v' w' h2 h3 h4 => h v' w' h2 h3 h4
end
def Cells (l : List (Addr × Value)) (w : World) : Prop := ∀ q ∈ l, w.cell? q.1 = some q.2
theorem cells_nil (w : World) : Cells [] w ↔ True := by simp [Cells]
theorem cells_cons (q : Addr × Value) (l : List (Addr × Value)) (w : World) : Cells (q :: l) w ↔ w.cell? q.1 = some q.2 ∧ Cells l w := by simp [Cells]
theorem cells_mk {q : Addr} {v : Value} {l : List (Addr × Value)} {w : World} (h : w.cell? q = some v) (h' : Cells l w) : Cells ((q, v) :: l) w := (cells_cons _ _ _).2 ⟨h, h'⟩
theorem cells_no (w : World) : Cells [] w := (cells_nil w).2 trivial
theorem cell_alloc {w : World} {p : Addr} {v : Value} (o : Obj) (h : w.cell? p = some v) : (w.alloc o).cell? p = some v := by rw [World.cell?_alloc_some w p o (by rw [h]; rfl)]; exact h
theorem cell_grown {w w' : World} {p : Addr} {v : Value} {row : Option Nat} (hg : w.grownBy w' row) (h : w.cell? p = some v) (hne : row ≠ some p.block) : w'.cell? p = some v := by
  rw [World.cell?_of_block (a := p) (hg.block p.block (World.block_lt_of_cell? w _ h) (fun e => hne e.symm))]; exact h
theorem Cells.drew {l : List (Addr × Value)} {w : World} (h : Cells l w) : Cells l w.drew := fun q hq => h q hq
theorem Cells.alloc {l : List (Addr × Value)} {w : World} (h : Cells l w) (o : Obj) : Cells l (w.alloc o) := fun q hq => cell_alloc o (h q hq)
theorem Cells.below {l : List (Addr × Value)} {w w' : World} (h : Cells l w) (hb : Below w.heap.size w w') : Cells l w' := fun q hq => (hb.cell (World.block_lt_of_cell? w _ (h q hq))).trans (h q hq)
theorem Cells.grown {l : List (Addr × Value)} {w w' : World} {row : Option Nat} (h : Cells l w) (hg : w.grownBy w' row) (hr : ∀ q ∈ l, row ≠ some q.1.block) : Cells l w' := fun q hq => cell_grown hg (h q hq) (hr q hq)
theorem info_Shape : (Try.prog.info? 43).map (fun i => (i.zero, i.size, i.bytes)) = some (some (.agg #[.int .i64 0, .slice none 0 0]), 2, 32) := by kernel_rfl
theorem fresh_apart {w w1 : World} {base base1 n : Nat} {T TF : TypeId} {v : Value} {rs : List ShR} {xs : List Shp} {r : ShR} {L : List Value} (h : OwnShs w base T TF v n rs xs) (hb : w.heap.size ≤ base1) (hr : w1.ownsRow base1 TF 5 (.slice r.a r.n r.cap) r.n L) :
    ∀ (i : Nat) (s : ShR), rs[i]? = some s → ∀ g, (Value.slice s.a s.n s.cap).ownBlock = some g → (Value.slice r.a r.n r.cap).ownBlock ≠ some g := by
  intro i s hs g hg hrg
  have hi : i < n := by
    rcases Nat.lt_or_ge i rs.length with h' | h'
    · rw [← h.len]; exact h'
    · rw [List.getElem?_eq_none h'] at hs; simp at hs
  obtain ⟨x, hx⟩ : ∃ x, xs[i]? = some x := ⟨_, List.getElem?_eq_getElem (by rw [h.lenx]; exact hi)⟩
  have h1 := ((h.each i s x hs hx).2.2.lt g hg).2
  have h2 := (hr.lt g hrg).1
  omega
theorem OwnShs.alloc {w : World} {base n : Nat} {T TF : TypeId} {v : Value} {rs : List ShR} {xs : List Shp} (h : OwnShs w base T TF v n rs xs) (o : Obj) : OwnShs (w.alloc o) base T TF v n rs xs := OwnShs.below h (Below.refl _ _ |>.alloc (Nat.le_refl _) o) (Nat.le_refl _)
theorem RowIs.alloc {w : World} {base : Nat} {TF : TypeId} {r : ShR} {x : Shp} (h : RowIs w base TF r x) (o : Obj) : RowIs (w.alloc o) base TF r x := ⟨h.1, h.2.1, h.2.2.alloc o⟩
theorem OwnShs.drew {w : World} {base n : Nat} {T TF : TypeId} {v : Value} {rs : List ShR} {xs : List Shp} (h : OwnShs w base T TF v n rs xs) : OwnShs w.drew base T TF v n rs xs := OwnShs.below h (Below.refl _ _).drew (Nat.le_refl _)
theorem below_grown {B : Nat} {w0 w w' : World} {row : Option Nat} (hb : Below B w0 w) (hg : w.grownBy w' row) (hr : ∀ g, row = some g → B ≤ g) (hB : B ≤ w.heap.size) : Below B w0 w' :=
  hb.trans ⟨hg.os, hg.tape, hg.output, hg.size, fun k hk => hg.block k (by omega) (fun e => by have := hr k e.symm; omega)⟩
theorem results_cell {fn : Func} {p : Tmp} {ty : TypeId} (h : fn.results = #[.cell p ty]) {tmps : Array Value} {a : Addr} (hp : tmps.getD p undef = .pointer (some a)) {P : Program} {w : World} {v : Value} (hv : (loadVar ty a).run P w = .ok v w) : (results fn tmps).run P w = .ok v w := by
  have hp' : tmps[p]?.getD undef = .pointer (some a) := by simpa using hp
  simp only [results, h]
  simp [Sem.run_bind, Result.andThen, hp', asAddr, hv]
theorem range_of_box {w : World} {b : Nat} {cs : List Value} {t : TypeId} (h : w.heap[b]? = some (.cells cs.toArray t (0, 0))) : w.rangeAt b 0 cs := by
  intro j u hj
  simp [World.cell?, h, hj]
end Go.Proofs.Ytbpilecgnfnndaa

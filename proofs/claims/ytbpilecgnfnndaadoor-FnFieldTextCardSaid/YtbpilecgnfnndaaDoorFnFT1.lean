/- Texts that FnFieldText leans on, part 1. (Put together by wip/tools/bundle.py.) -/
import Derived.Test.YtbpilecgnfnndaaDoorRows
import Derived.WalkKit
import Derived.ProofKit
import Derived.OpenShut
import Derived.ShutString
import Derived.ChangeOld
import Derived.Below
import Derived.WalkLawsBesides
import Derived.WalkSpells
import Derived.Lib.Hide
import Derived.Deep.QuietTactic
import Derived.BigQuiet
import Derived.Deep.RegionHeld3
import Derived.Lib.SmallJoins
import Derived.Test.YtbpilecgnfnndaaDoorShelf
import Derived.Lib.ItoaLen
import Derived.Lib.AtoiTie
import Derived.Laws.IdiomStrings
namespace Go.Proofs.YtbpilecgnfnndaaDoor
set_option linter.unusedSimpArgs false
set_option linter.unusedVariables false
open Go.ChangeShapes Go.WideShapes Go.ChangeAt Go.RowKit
theorem own : ownKnob Tryd.prog.godebug = none := by kernel_rfl
theorem laidOut : laidOutB Tryd.prog = true := by kernel_rfl
inductive CK where
  | int (k : IntKind)
  | bool
  | str
  | sl (es : List CK)
def flatFs (r : TypeId → Option (List CK)) (P : Program) : List Field → Nat → Option (List CK)
  | [], _ => some []
  | f :: fs, o =>
    if f.offset = o then
      match r f.type with
      | some ks => if P.cellsOf f.type = ks.length then (flatFs r P fs (o + ks.length)).map fun l => ks ++ l else none
      | none => none
    else none
def flat (P : Program) : Nat → TypeId → Option (List CK)
  | 0, _ => none
  | n + 1, t =>
    match P.underlying t with
    | some .bool => some [.bool]
    | some (.int k) => some [.int k]
    | some .string => some [.str]
    | some (.slice e) => match flat P n e with
      | some es => if P.cellsOf e = es.length then some [.sl es] else none
      | none => none
    | some (.struct fs) => flatFs (flat P n) P fs.toList 0
    | _ => none
def CK.ok (w : World) : Nat → CK → Value → Prop
  | 0, _, _ => True
  | _ + 1, .int k, v => ∃ m, v = .int k m ∧ (Lit.int k m).wf = true
  | _ + 1, .bool, v => ∃ b, v = .bool b
  | _ + 1, .str, v => ∃ s, v = .string s ∧ s.size ≤ maxLen
  | n + 1, .sl es, v => v = .slice none 0 0 ∨ ∃ (a : Addr) (len cap : Nat), v = .slice (some a) len cap ∧ len ≤ cap ∧ cap ≤ maxLen ∧
      ∀ i, i < len → ∃ cs : List Value, w.cells? 0 (a.add (i * es.length)) es.length = some cs ∧ ∀ (j : Nat) (ck : CK), es[j]? = some ck → ∃ x, cs[j]? = some x ∧ ck.ok w n x
theorem flat_fields {H : Type} {enc : TypeId × Value → H} {P : Program} {w : World} {sp : Nat → Bool} {n : Nat} {m : Nat} {cs : List Value}
    (ih : ∀ (t : TypeId) (ks : List CK) (cs : List Value) (x : DataW H × List MemPlace), flat P n t = some ks → P.cellsOf t = ks.length → DataW.trod enc P w 0 sp true m t cs = some x →
      ∀ (j : Nat) (ck : CK), ks[j]? = some ck → ∃ v, cs[j]? = some v ∧ ∀ N, ck.ok w N v) :
    ∀ (fs : List Field) (o : Nat) (ks : List CK), flatFs (flat P n) P fs o = some ks →
      (∀ f ∈ fs, ∃ x, DataW.trod enc P w 0 sp true m f.type ((cs.drop f.offset).take (P.cellsOf f.type)) = some x) →
      ∀ (j : Nat) (ck : CK), ks[j]? = some ck → ∃ v, cs[o + j]? = some v ∧ ∀ N, ck.ok w N v := by
  intro fs
  induction fs with
  | nil => intro o ks hk _ j ck hj; simp [flatFs] at hk; subst hk; simp at hj
  | cons f fs ihf =>
    intro o ks hk hf j ck hj
    unfold flatFs at hk
    split at hk
    · rename_i ho
      split at hk
      · rename_i k1 hk1
        split at hk
        · rename_i hc
          simp only [Option.map_eq_some_iff] at hk
          obtain ⟨l, hl, rfl⟩ := hk
          by_cases hlt : j < k1.length
          · rw [List.getElem?_append_left hlt] at hj
            obtain ⟨x, hx⟩ := hf f (by simp)
            obtain ⟨v, hv, hok⟩ := ih _ _ _ _ hk1 hc hx j ck hj
            refine ⟨v, ?_, hok⟩
            rw [List.getElem?_take] at hv
            split at hv
            · rw [List.getElem?_drop, ho] at hv; exact hv
            · simp at hv
          · rw [List.getElem?_append_right (by omega)] at hj
            obtain ⟨v, hv, hok⟩ := ihf _ _ hl (fun g hg => hf g (by simp [hg])) _ _ hj
            refine ⟨v, ?_, hok⟩
            rw [show o + j = o + k1.length + (j - k1.length) by omega]
            exact hv
        · simp at hk
      · simp at hk
    · simp at hk
theorem flat_open {H : Type} {enc : TypeId × Value → H} {P : Program} {w : World} {sp : Nat → Bool} : ∀ (n : Nat) (m : Nat) (t : TypeId) (ks : List CK) (cs : List Value) (x : DataW H × List MemPlace),
    flat P n t = some ks → P.cellsOf t = ks.length → DataW.trod enc P w 0 sp true m t cs = some x →
      ∀ (j : Nat) (ck : CK), ks[j]? = some ck → ∃ v, cs[j]? = some v ∧ ∀ N, ck.ok w N v := by
  intro n
  induction n with
  | zero => intro m t ks cs x hk; simp [flat] at hk
  | succ n ih =>
    intro m t ks cs x hk hc h j ck hj
    unfold flat at hk
    split at hk
    · rename_i ht
      simp only [Option.some.injEq] at hk; subst hk
      obtain ⟨b, rfl, _⟩ := DataW.trod_bool ht h
      cases j with
      | zero => simp at hj; subst hj; exact ⟨_, rfl, fun N => by cases N with | zero => trivial | succ N => exact ⟨b, rfl⟩⟩
      | succ j => simp at hj
    · rename_i k ht
      simp only [Option.some.injEq] at hk; subst hk
      obtain ⟨b, rfl, _, hw⟩ := DataW.trod_int ht h
      cases j with
      | zero => simp at hj; subst hj; exact ⟨_, rfl, fun N => by cases N with | zero => trivial | succ N => exact ⟨b, rfl, hw⟩⟩
      | succ j => simp at hj
    · rename_i ht
      simp only [Option.some.injEq] at hk; subst hk
      obtain ⟨b, rfl, _, hw⟩ := DataW.trod_string ht h
      cases j with
      | zero => simp at hj; subst hj; exact ⟨_, rfl, fun N => by cases N with | zero => trivial | succ N => exact ⟨b, rfl, hw⟩⟩
      | succ j => simp at hj
    · rename_i e ht
      split at hk
      · rename_i es hes
        split at hk
        · rename_i hce
          simp only [Option.some.injEq] at hk; subst hk
          cases j with
          | succ j => simp at hj
          | zero =>
            simp at hj; subst hj
            rcases DataW.trod_slice ht h with ⟨rfl, _⟩ | ⟨a, len, cap, elems, rest, m', _, rfl, _, _, hl, hm, hlen, hel, _⟩
            · exact ⟨_, rfl, fun N => by cases N with | zero => trivial | succ N => exact .inl rfl⟩
            · refine ⟨_, rfl, fun N => ?_⟩
              cases N with
              | zero => trivial
              | succ N =>
              refine .inr ⟨a, len, cap, rfl, hl, hm, fun i hi => ?_⟩
              have h1 := hel i hi
              rw [List.getElem?_eq_getElem (by omega)] at h1
              rw [Option.bind_eq_some_iff] at h1
              obtain ⟨cs', h2, h3⟩ := h1
              rw [hce] at h2
              exact ⟨cs', h2, fun j ck hj => let ⟨x, hx, hk⟩ := ih _ _ _ _ _ hes hce h3 j ck hj; ⟨x, hx, hk N⟩⟩
        · simp at hk
      · simp at hk
    · rename_i fs ht
      obtain ⟨xs, m', _, _, hlen, hxs, hf⟩ := DataW.trod_struct ht h
      have := flat_fields (cs := cs) (ih m') fs.toList 0 ks hk (fun f hfm => by
        obtain ⟨i, hi, rfl⟩ := List.getElem_of_mem hfm
        have h1 := hf i fs.toList[i] (by simp at hi ⊢)
        rw [List.getElem?_eq_getElem (by simp at hi; omega)] at h1
        exact ⟨_, h1⟩) j ck hj
      simpa using this
    · simp at hk
theorem bcell {B : Nat} {W w1 : World} (hb : Below B W w1) : (∀ b o, b < B → w1.cell? ⟨b, o, none⟩ = W.cell? ⟨b, o, none⟩) ∧ (∀ b o, b < B → w1.frozen? ⟨b, o, none⟩ = W.frozen? ⟨b, o, none⟩) :=
  ⟨fun b o h => hb.cell (p := ⟨b, o, none⟩) h, fun b o h => hb.frozen (p := ⟨b, o, none⟩) h⟩
section
open Classical in
noncomputable def World.ext (w x : World) : World := if Below w.heap.size w x then x else w
theorem World.ext_below (w x : World) : Below w.heap.size w (World.ext w x) := by
  unfold World.ext; split
  · assumption
  · exact Below.refl _ _
theorem World.ext_of {w x : World} (h : Below w.heap.size w x) : x = World.ext w x := by unfold World.ext; rw [if_pos h]
@[go_sem] theorem World.cell?_ext (w x : World) (b o : Nat) (h : b < w.heap.size) : (World.ext w x).cell? ⟨b, o, none⟩ = w.cell? ⟨b, o, none⟩ := (World.ext_below w x).cell h
@[go_sem] theorem World.frozen?_ext (w x : World) (b o : Nat) (h : b < w.heap.size) : (World.ext w x).frozen? ⟨b, o, none⟩ = w.frozen? ⟨b, o, none⟩ := (World.ext_below w x).frozen h
theorem Calls.ext_of {P : Program} {f : FuncId} {args : Array Value} {w x : World} {v : Value}
    (h : Calls P f args (World.ext w x) fun e w' => e = .returned v ∧ Below (World.ext w x).heap.size (World.ext w x) w') : Calls P f args (World.ext w x) fun e w'' => e = .returned v ∧ ∃ y, w'' = World.ext w y :=
  h.mono fun _ w' ⟨he, hb⟩ => ⟨he, w', World.ext_of ((World.ext_below w x).trans (hb.mono (World.ext_below w x).size))⟩
theorem wp_region_ext {P : Program} {id : Nat} {Q : Exit → Act → World → Prop} {a : Act} {w : World} {l : List Oper} (hm : P.follows .mixedOrders = true) (hB : Region.lexB .any l.toArray = true)
    (h : wpQuiet P l.toArray (fun w' => ∃ x, w' = World.ext w x) (fun a' => ∀ w', Below w.heap.size w w' → Q .normal a' w') l a) : (Code.region id l.toArray true).wp P Q a w := by
  refine wp_region_quiet (C := fun w' => ∃ x, w' = World.ext w x) hm hB ⟨w.drew, World.ext_of (Below.refl _ _).drew⟩ ?_
  have e : (fun a' : Act => ∀ w', Below w.heap.size w w' → Q .normal a' w') = fun a' : Act => ∀ w', (∃ x, w' = World.ext w x) → Q .normal a' w' := by
    funext a'; apply propext
    exact ⟨fun g w' ⟨x, hx⟩ => g w' (by rw [hx]; exact World.ext_below w x), fun g w' hb => g w' ⟨w', World.ext_of hb⟩⟩
  rw [e] at h
  exact h
end
theorem box_next {w w' : World} {B : Nat} {cs : Array Value} (hb : Below w.heap.size w w') (hB : B < w.heap.size) (k : ∀ i, w.cell? ⟨B, i, none⟩ = cs[i]?) : ∀ i, w'.cell? ⟨B, i, none⟩ = cs[i]? := fun i => (hb.cell (p := ⟨B, i, none⟩) hB).trans (k i)
theorem heap_nth0 (w : World) (o : Obj) : (w.alloc o).heap[w.heap.size]? = some o := heap_alloc_new w o
theorem box_cells {w : World} {B : Nat} {cs : Array Value} {t : TypeId} (h : w.heap[B]? = some (.cells cs t (0, 0))) : ∀ i, w.cell? ⟨B, i, none⟩ = cs[i]? := fun i => by simp [World.cell?, h]
section
variable {w w' : World} {cs : Array Value} {t : TypeId} {o p : Obj}
theorem box_new0 (hb : Below (w.alloc (.cells cs t)).heap.size (w.alloc (.cells cs t)) w') : ∀ i, w'.cell? ⟨w.heap.size, i, none⟩ = cs[i]? := box_cells ((hb.block w.heap.size (by simp)).trans (heap_nth0 w _))
theorem box_lt0 (hb : Below (w.alloc (.cells cs t)).heap.size (w.alloc (.cells cs t)) w') : w.heap.size < w'.heap.size := by have := hb.size; simp at this; omega
end
section
variable {W w w' : World} {B1 B2 B3 B4 B5 : Nat} {c1 c2 c3 c4 c5 : Array Value}
end
theorem hset_same {w : World} {b o : Nat} {v : Value} {cs cs' : Array Value} {t : TypeId} (h : w.heap[b]? = some (.cells cs t (0, 0))) (e : cs.setIfInBounds o v = cs') : (w.setCell ⟨b, o, none⟩ v).heap[b]? = some (.cells cs' t (0, 0)) := by
  rw [← e]; exact heap_setCell_same w b o cs t v h
theorem hset_set {w : World} {b o : Nat} {v : Value} {cs : Array Value} {t : TypeId} (h : w.heap[b]? = some (.cells cs t (0, 0))) : (w.setCell ⟨b, o, none⟩ v).heap[b]? = some (.cells (cs.setIfInBounds o v) t (0, 0)) := heap_setCell_same w b o cs t v h
theorem hset_eq {w : World} {b : Nat} {cs cs' : Array Value} {t : TypeId} (h : w.heap[b]? = some (.cells cs t (0, 0))) (e : cs = cs') : w.heap[b]? = some (.cells cs' t (0, 0)) := by rw [← e]; exact h
theorem hset_other {w : World} {p : Addr} {k : Nat} {v : Value} {o : Obj} (h : w.heap[k]? = some o) (hk : k ≠ p.block) : (w.setCell p v).heap[k]? = some o := by
  rw [heap_setCell_other w p k v hk]; exact h
theorem hset_alloc {w : World} {k : Nat} {o x : Obj} (h : w.heap[k]? = some x) : (w.alloc o).heap[k]? = some x := by
  have hk : k < w.heap.size := by
    rcases Nat.lt_or_ge k w.heap.size with h1 | h1
    · exact h1
    · rw [Array.getElem?_eq_none h1] at h; simp at h
  rw [Below.heap_alloc w o k hk]; exact h
theorem hset_new {w : World} {k : Nat} {o : Obj} (h : k = w.heap.size) : (w.alloc o).heap[k]? = some o := by rw [h]; exact heap_alloc_new w o
theorem hset_drew {w : World} {k : Nat} {x : Obj} (h : w.heap[k]? = some x) : w.drew.heap[k]? = some x := h
theorem box_frozen {w : World} {B : Nat} {cs : Array Value} {t : TypeId} (h : w.heap[B]? = some (.cells cs t (0, 0))) : ∀ i, w.frozen? ⟨B, i, none⟩ = false := fun i => by simp [World.frozen?, h]
theorem box_lt {w : World} {B : Nat} {o : Obj} (h : w.heap[B]? = some o) : B < w.heap.size := by
  rcases Nat.lt_or_ge B w.heap.size with h1 | h1
  · exact h1
  · rw [Array.getElem?_eq_none h1] at h; simp at h
@[simp] theorem size_setRow (w : World) (b : Nat) (cs : Array Value) : (w.setRow b cs).heap.size = w.heap.size := by simp [World.setRow]
theorem below_setRow {B b : Nat} {w0 w : World} (hb : Below B w0 w) (h : B ≤ b) (cs : Array Value) : Below B w0 (w.setRow b cs) :=
  hb.trans ⟨rfl, rfl, rfl, by simp [World.setRow], fun k hk => setRow_other w b k cs (by omega)⟩
theorem ret_bool {a b : Bool} (h : a = b) : Ending.returned (.bool a) = .returned (.bool b) := by rw [h]
theorem ret_str {a b : ByteArray} (h : a = b) : Ending.returned (.string a) = .returned (.string b) := by rw [h]
structure Ev where
  kind : Int
  field : Int
  bits : Int
  len : Int
  text : ByteArray
  code : Int
  at_ : Int
  deriving DecidableEq
@[reducible] def Ev.cs (e : Ev) : List Value := [.int .i64 e.kind, .int .i64 e.field, .int .u64 e.bits, .int .i64 e.len, .string e.text, .int .i64 e.code, .int .i64 e.at_]
@[reducible] def Ev.val (e : Ev) : Value := .agg #[.int .i64 e.kind, .int .i64 e.field, .int .u64 e.bits, .int .i64 e.len, .string e.text, .int .i64 e.code, .int .i64 e.at_]
def W64 (n : Int) : Prop := (Lit.int .i64 n).wf = true
def WU64 (n : Int) : Prop := (Lit.int .u64 n).wf = true
structure Ev.ok (e : Ev) : Prop where
  kind : W64 e.kind
  field : W64 e.field
  bits : WU64 e.bits
  len : W64 e.len
  text : e.text.size ≤ maxLen
  code : W64 e.code
  at_ : W64 e.at_
theorem W64.lo {n : Int} (h : W64 n) : -9223372036854775808 ≤ n ∧ n ≤ 9223372036854775807 := by
  unfold W64 at h; simpa [Lit.wf, IntKind.min, IntKind.max, IntKind.signed, IntKind.bits] using h
theorem WU64.lo {n : Int} (h : WU64 n) : 0 ≤ n ∧ n ≤ 18446744073709551615 := by
  unfold WU64 at h; simpa [Lit.wf, IntKind.min, IntKind.max, IntKind.signed, IntKind.bits] using h
structure Fld where
  number : Int
  kind : Int
  rep : Bool
  packed : Bool
  msg : Int
  deriving DecidableEq
@[reducible] def Fld.cs (f : Fld) : List Value := [.int .i64 f.number, .int .i64 f.kind, .bool f.rep, .bool f.packed, .int .i64 f.msg]
@[reducible] def Fld.val (f : Fld) : Value := .agg #[.int .i64 f.number, .int .i64 f.kind, .bool f.rep, .bool f.packed, .int .i64 f.msg]
structure Fld.ok (f : Fld) : Prop where
  number : W64 f.number
  kind : W64 f.kind
  msg : W64 f.msg
theorem beq_bytes (a b : ByteArray) : (a.toList == b.toList) = decide (a = b) := by
  rw [Bool.eq_iff_iff]
  simp only [beq_iff_eq, decide_eq_true_eq, ByteArray.toList_eq]
  constructor
  · intro h
    obtain ⟨⟨x⟩⟩ := a
    obtain ⟨⟨y⟩⟩ := b
    simp at h
    rw [h]
  · rintro rfl; rfl
section
variable {H : Type} {enc : TypeId × Value → H} {P : Program} {W : World} {base : Nat} {sp : Nat → Bool} {t : TypeId} {v : Value} {d : DataW H} {ps : List MemPlace}
theorem flat_trod {ks : List CK} (hk : flat P 9 t = some ks) (hc : P.cellsOf t = ks.length) (h : DataW.Trod enc P W 0 sp true t v d ps) :
    ∀ (j : Nat) (ck : CK), ks[j]? = some ck → ∃ x, v.cells.toList[j]? = some x ∧ ∀ N, ck.ok W N x := by
  obtain ⟨m, hm⟩ := h
  exact flat_open 9 m t ks _ _ hk hc hm
theorem ok_int {w : World} {k : IntKind} {v : Value} (h : (CK.int k).ok w 1 v) : ∃ m, v = .int k m ∧ (Lit.int k m).wf = true := h
end
section
variable {H : Type} {enc : TypeId × Value → H} {W : World} {base : Nat} {sp : Nat → Bool} {v : Value} {d : DataW H} {ps : List MemPlace}
end
def inB (x a b : Int) : Bool := decide (a ≤ x ∧ x ≤ b)
theorem inB_of {x a b : Int} (h1 : a ≤ x) : decide (x ≤ b) = inB x a b := by simp [inB, h1]
theorem inB_no {x a b : Int} (h1 : x < a) : false = inB x a b := by simp [inB]; omega
theorem l1In_any (x a b : Int) (w : World) : Calls Tryd.prog 21 #[.int .i64 x, .int .i64 a, .int .i64 b] w fun r w' => r = .returned (.bool (inB x a b)) ∧ w = w' := by
  by_cases h : a ≤ x
  · go_enter Tryd.func21, Tryd.ntmps21
    go_wp2
    go_ret
    exact ⟨by rw [inB_of h]; rfl, rfl⟩
  · go_enter Tryd.func21, Tryd.ntmps21
    go_wp2
    go_ret
    exact ⟨by rw [← inB_no (by omega)]; rfl, rfl⟩
theorem within_any (x a b : Int) (w : World) : Calls Tryd.prog 25 #[.int .i64 x, .int .i64 a, .int .i64 b] w fun r w' => r = .returned (.bool (inB x a b)) ∧ w = w' := by
  by_cases h : a ≤ x
  · go_enter Tryd.func25, Tryd.ntmps25
    go_wp2
    go_ret
    exact ⟨by rw [inB_of h]; rfl, rfl⟩
  · go_enter Tryd.func25, Tryd.ntmps25
    go_wp2
    go_ret
    exact ⟨by rw [← inB_no (by omega)]; rfl, rfl⟩
end Go.Proofs.YtbpilecgnfnndaaDoor
namespace Go.Proofs.YtbpilecgnfnndaaDoor
set_option linter.unusedSimpArgs false
set_option linter.unusedVariables false
open Go.ChangeShapes Go.WideShapes Go.ChangeAt Go.RowKit Go.BigFrame
theorem specNumeric_any (x : Int) (w : World) : Calls Tryd.prog 83 #[.int .i64 x] w fun r w' => r = .returned (.bool (inB x 1 5)) ∧ w = w' := by
  go_enter Tryd.func83, Tryd.ntmps83
  go_wp2_with (first | (go_at_call 21; refine (l1In_any _ _ _ _).mono ?_; rintro r w1 ⟨rfl, rfl⟩))
  go_ret
  exact ⟨rfl, rfl⟩
def Sl {α : Type} (sz : Nat) (cs : α → List Value) (w : World) (a : Option Addr) (xs : List α) : Prop :=
  ∀ (k : Nat) (e : α), xs[k]? = some e → ∃ b off, a = some ⟨b, off, none⟩ ∧ b < w.heap.size ∧ ∀ (j : Nat) (u : Value), (cs e)[j]? = some u → w.cell? ⟨b, off + k * sz + j, none⟩ = some u
section
variable {α : Type} {sz : Nat} {cs : α → List Value} {w w' : World} {a : Option Addr} {xs : List α}
theorem Sl.nil (a : Option Addr) : Sl sz cs w a [] := fun k e h => by simp at h
theorem Sl.below {B : Nat} (h : Sl sz cs w a xs) (hb : Below B w w') (hB : w.heap.size ≤ B) : Sl sz cs w' a xs := by
  intro k e he
  obtain ⟨b, off, ha, hlt, hc⟩ := h k e he
  exact ⟨b, off, ha, Nat.lt_of_lt_of_le hlt hb.size, fun j u hu => (hb.cell (p := ⟨b, _, none⟩) (Nat.lt_of_lt_of_le hlt hB)).trans (hc j u hu)⟩
theorem Sl.keep (h : Sl sz cs w a xs) (hb : Below w.heap.size w w') : Sl sz cs w' a xs := h.below hb (Nat.le_refl _)
theorem flatMap_at (hcs : ∀ x, (cs x).length = sz) : ∀ (xs : List α) (k j : Nat) (e : α), xs[k]? = some e → j < sz → (xs.flatMap cs)[k * sz + j]? = (cs e)[j]?
  | [], k, j, e, he, _ => by simp at he
  | x :: xs, 0, j, e, he, hj => by
    simp at he; subst he
    simp only [List.flatMap_cons, Nat.zero_mul, Nat.zero_add]
    rw [List.getElem?_append_left (by rw [hcs]; exact hj)]
  | x :: xs, k + 1, j, e, he, hj => by
    simp at he
    have ih := flatMap_at hcs xs k j e he hj
    simp only [List.flatMap_cons]
    rw [List.getElem?_append_right (by rw [hcs, Nat.succ_mul]; omega), hcs, ← ih]
    congr 1
    rw [Nat.succ_mul]; omega
theorem flatMap_len (hcs : ∀ x, (cs x).length = sz) : ∀ (xs : List α), (xs.flatMap cs).length = xs.length * sz
  | [] => by simp
  | x :: xs => by simp only [List.flatMap_cons, List.length_append, List.length_cons, hcs, flatMap_len hcs xs, Nat.succ_mul]; omega
theorem Sl.of_owns {base : Nat} {t : TypeId} {v : Value} {n : Nat} (hcs : ∀ x, (cs x).length = sz) (h : w.ownsRow base t sz v n (xs.flatMap cs)) (hn : xs.length = n) :
    ∃ (a : Option Addr) (cap : Nat), v = .slice a n cap ∧ n ≤ cap ∧ cap ≤ maxLen ∧ Sl sz cs w a xs := by
  obtain ⟨hl, h⟩ := h
  rcases h with ⟨rfl, h0⟩ | ⟨g, cap, cur, rfl, hb, hh, hc, hm, hs, ht⟩
  · have : xs = [] := List.length_eq_zero_iff.1 (by omega)
    subst this
    exact ⟨none, 0, by simp [h0], by omega, Nat.zero_le _, Sl.nil _⟩
  · refine ⟨some ⟨g, 0, none⟩, cap, rfl, hc, hm, ?_⟩
    intro k e he
    have hk : k < xs.length := by
      rcases Nat.lt_or_ge k xs.length with h | h
      · exact h
      · rw [List.getElem?_eq_none h] at he; simp at he
    refine ⟨g, 0, rfl, ?_, ?_⟩
    · rcases Nat.lt_or_ge g w.heap.size with h | h
      · exact h
      · rw [Array.getElem?_eq_none h] at hh; simp at hh
    · intro j u hu
      have hj : j < sz := by
        rcases Nat.lt_or_ge j sz with h | h
        · exact h
        · rw [List.getElem?_eq_none (by rw [hcs]; exact h)] at hu; simp at hu
      have h1 := flatMap_at hcs xs k j e he hj
      rw [← ht] at h1
      have hlt : k * sz + j < n * sz := by
        have : (k + 1) * sz ≤ n * sz := Nat.mul_le_mul_right _ (by omega)
        rw [Nat.succ_mul] at this; omega
      rw [List.getElem?_take_of_lt hlt, hu] at h1
      simp only [World.cell?, hh, Nat.zero_add]
      simpa using h1
end
structure SlArg (α : Type) where
  a : Option Addr
  cap : Nat
  xs : List α
@[reducible] def SlArg.val {α : Type} (x : SlArg α) : Value := .slice x.a x.xs.length x.cap
structure SlArg.ok {α : Type} (sz : Nat) (cs : α → List Value) (OK : α → Prop) (w : World) (x : SlArg α) : Prop where
  sl : Sl sz cs w x.a x.xs
  each : ∀ e ∈ x.xs, OK e
  le : x.xs.length ≤ x.cap
  cap : x.cap ≤ maxLen
theorem list_of {α : Type} {p : Nat → α → Prop} : ∀ (n : Nat), (∀ i, i < n → ∃ e, p i e) → ∃ xs : List α, xs.length = n ∧ ∀ i e, xs[i]? = some e → p i e
  | 0, _ => ⟨[], rfl, fun i e h => by simp at h⟩
  | n + 1, h => by
    obtain ⟨xs, hl, hx⟩ := list_of n (fun i hi => h i (by omega))
    obtain ⟨e, he⟩ := h n (by omega)
    refine ⟨xs ++ [e], by simp [hl], fun i u hu => ?_⟩
    rcases Nat.lt_trichotomy i n with hi | rfl | hi
    · rw [List.getElem?_append_left (by omega)] at hu; exact hx i u hu
    · rw [List.getElem?_append_right (by omega), hl] at hu; simp at hu; subst hu; exact he
    · rw [List.getElem?_eq_none (by simp; omega)] at hu; simp at hu
theorem sl_open {α : Type} {cks : List CK} {sz N : Nat} {cs : α → List Value} {OK : α → Prop} {w : World} {v : Value} (h : (CK.sl cks).ok w (N + 1) v) (hsz : cks.length = sz) (h0 : 0 < sz) (hcs : ∀ x, (cs x).length = sz)
    (mk : ∀ l : List Value, l.length = sz → (∀ (j : Nat) (ck : CK), cks[j]? = some ck → ∃ x, l[j]? = some x ∧ ck.ok w N x) → ∃ e : α, l = cs e ∧ OK e) :
    ∃ x : SlArg α, v = x.val ∧ x.ok sz cs OK w := by
  rcases h with rfl | ⟨a, len, cap, rfl, hl, hm, hi⟩
  · exact ⟨⟨none, 0, []⟩, rfl, ⟨Sl.nil _, fun e he => by simp at he, Nat.le_refl _, Nat.zero_le _⟩⟩
  · rw [hsz] at hi
    have key : ∀ i, i < len → ∃ e : α, OK e ∧ ∃ b off, some a = some ⟨b, off, none⟩ ∧ b < w.heap.size ∧ ∀ (j : Nat) (u : Value), (cs e)[j]? = some u → w.cell? ⟨b, off + i * sz + j, none⟩ = some u := by
      intro i hlt
      obtain ⟨b, off, spot⟩ := a
      have hsp : spot = none := by
        obtain ⟨l, hl1, hl2⟩ := hi 0 (by omega)
        obtain ⟨_, hlen, hc⟩ := World.cells?_some hl1
        have h1 := hc 0 h0
        rw [List.getElem?_eq_getElem (by omega)] at h1
        have := World.cell?_spot h1
        simpa [Addr.add] using this
      subst hsp
      obtain ⟨l, hl1, hl2⟩ := hi i hlt
      obtain ⟨_, hlen, hc⟩ := World.cells?_some hl1
      obtain ⟨e, rfl, hok⟩ := mk l hlen hl2
      have hcell : ∀ (j : Nat) (u : Value), (cs e)[j]? = some u → w.cell? ⟨b, off + i * sz + j, none⟩ = some u := by
        intro j u hu
        have hj : j < sz := by
          rcases Nat.lt_or_ge j sz with h | h
          · exact h
          · rw [List.getElem?_eq_none (by rw [hcs]; exact h)] at hu; simp at hu
        have h1 := hc j hj
        rw [hu] at h1
        rw [← h1]
        congr 1
        simp only [Addr.add]
        split <;> split <;> simp_all
      refine ⟨e, hok, b, off, rfl, ?_, hcell⟩
      exact World.block_lt_of_cell? w _ (hcell 0 _ (List.getElem?_eq_getElem (by rw [hcs]; exact h0)))
    obtain ⟨xs, hlen, hx⟩ := list_of len key
    refine ⟨⟨some a, cap, xs⟩, by simp [SlArg.val, hlen], ⟨fun k e he => (hx k e he).2, fun e he => ?_, by simp only; omega, hm⟩⟩
    obtain ⟨i, hi', rfl⟩ := List.getElem_of_mem he
    exact (hx i _ (List.getElem?_eq_getElem hi')).1
@[reducible] def Evs := Sl 7 Ev.cs
theorem Evs.at {w : World} {a : Option Addr} {xs : List Ev} (h : Evs w a xs) {k : Nat} {e : Ev} (he : xs[k]? = some e) :
    ∃ b off, a = some ⟨b, off, none⟩ ∧ b < w.heap.size ∧ w.cell? ⟨b, off + k * 7, none⟩ = some (.int .i64 e.kind) ∧ w.cell? ⟨b, off + k * 7 + 1, none⟩ = some (.int .i64 e.field) ∧ w.cell? ⟨b, off + k * 7 + 2, none⟩ = some (.int .u64 e.bits)
      ∧ w.cell? ⟨b, off + k * 7 + 3, none⟩ = some (.int .i64 e.len) ∧ w.cell? ⟨b, off + k * 7 + 4, none⟩ = some (.string e.text) ∧ w.cell? ⟨b, off + k * 7 + 5, none⟩ = some (.int .i64 e.code) ∧ w.cell? ⟨b, off + k * 7 + 6, none⟩ = some (.int .i64 e.at_) := by
  obtain ⟨b, off, ha, hlt, hc⟩ := h k e he
  exact ⟨b, off, ha, hlt, hc 0 _ rfl, hc 1 _ rfl, hc 2 _ rfl, hc 3 _ rfl, hc 4 _ rfl, hc 5 _ rfl, hc 6 _ rfl⟩
theorem at_lt {α : Type} {xs : List α} {k : Nat} (h : k < xs.length) : ∃ e, xs[k]? = some e ∧ e ∈ xs := ⟨xs[k], List.getElem?_eq_getElem h, List.getElem_mem h⟩
theorem owns_below {w w' : World} {B base : Nat} {e : TypeId} {size n : Nat} {v : Value} {xs : List Value} (h : w.ownsRow base e size v n xs) (hb : Below B w w') (hB : w.heap.size ≤ B) : w'.ownsRow base e size v n xs := by
  obtain ⟨hl, h⟩ := h
  refine ⟨hl, ?_⟩
  rcases h with h | ⟨g, cap, cur, hv, hg, hh, r⟩
  · exact .inl h
  · have hlt : g < w.heap.size := by
      rcases Nat.lt_or_ge g w.heap.size with h | h
      · exact h
      · rw [Array.getElem?_eq_none h] at hh; simp at hh
    exact .inr ⟨g, cap, cur, hv, hg, by rw [hb.block g (by omega)]; exact hh, r⟩
theorem owns_le {w : World} {base b' : Nat} {e : TypeId} {size n : Nat} {v : Value} {xs : List Value} (h : w.ownsRow base e size v n xs) (hb : b' ≤ base) : w.ownsRow b' e size v n xs := by
  obtain ⟨hl, h⟩ := h
  refine ⟨hl, ?_⟩
  rcases h with h | ⟨g, cap, cur, hv, hg, r⟩
  · exact .inl h
  · exact .inr ⟨g, cap, cur, hv, by omega, r⟩
theorem owns_set {w : World} {base : Nat} {e : TypeId} {size n : Nat} {v : Value} {xs : List Value} (h : w.ownsRow base e size v n xs) {p : Addr} (hp : p.block < base) (u : Value) : (w.setCell p u).ownsRow base e size v n xs := by
  obtain ⟨hl, h⟩ := h
  refine ⟨hl, ?_⟩
  rcases h with h | ⟨g, cap, cur, hv, hg, hh, r⟩
  · exact .inl h
  · exact .inr ⟨g, cap, cur, hv, hg, by rw [Below.heap_setCell w p u g (by omega)]; exact hh, r⟩
theorem owns_setRow {w : World} {base b : Nat} {e : TypeId} {size n : Nat} {v : Value} {xs : List Value} (h : w.ownsRow base e size v n xs) (hb : b < base) (cs : Array Value) : (w.setRow b cs).ownsRow base e size v n xs := by
  obtain ⟨hl, h⟩ := h
  refine ⟨hl, ?_⟩
  rcases h with h | ⟨g, cap, cur, hv, hg, hh, r⟩
  · exact .inl h
  · exact .inr ⟨g, cap, cur, hv, hg, by rw [setRow_other w b g cs (by omega)]; exact hh, r⟩
def setRow (L : List Value) (o : Nat) : List Value → List Value
  | [] => L
  | c :: cs => setRow (L.set o c) (o + 1) cs
theorem setRow_take : ∀ (cs : List Value) (L : List Value) (o : Nat), o + cs.length ≤ L.length → (setRow L o cs).take (o + cs.length) = L.take o ++ cs
  | [], L, o, _ => by simp [setRow]
  | c :: cs, L, o, h => by
    simp only [List.length_cons] at h
    have ih := setRow_take cs (L.set o c) (o + 1) (by simp; omega)
    simp only [setRow, List.length_cons]
    rw [show o + (cs.length + 1) = o + 1 + cs.length by omega, ih, List.take_add_one, List.take_set]
    have h1 : (L.set o c)[o]? = some c := by rw [List.getElem?_set]; simp; omega
    rw [h1]
    have h2 : (L.take o).set o c = L.take o := by rw [List.set_eq_of_length_le]; simp; omega
    rw [h2]; simp
theorem owns_some {w : World} {base g cap n size : Nat} {t : TypeId} {L : List Value} (h : w.ownsRow base t size (.slice (some ⟨g, 0, none⟩) n cap) n L) (j : Nat) (hj : j < n * size) : ∃ u, w.cell? ⟨g, j, none⟩ = some u :=
  ⟨L[j]'(by rw [h.1]; exact hj), by rw [h.cellAt j hj]; exact List.getElem?_eq_getElem _⟩
@[reducible] def Flds := Sl 5 Fld.cs
theorem Flds.at {w : World} {a : Option Addr} {xs : List Fld} (h : Flds w a xs) {k : Nat} {e : Fld} (he : xs[k]? = some e) :
    ∃ b off, a = some ⟨b, off, none⟩ ∧ b < w.heap.size ∧ w.cell? ⟨b, off + k * 5, none⟩ = some (.int .i64 e.number) ∧ w.cell? ⟨b, off + k * 5 + 1, none⟩ = some (.int .i64 e.kind) ∧ w.cell? ⟨b, off + k * 5 + 2, none⟩ = some (.bool e.rep) ∧ w.cell? ⟨b, off + k * 5 + 3, none⟩ = some (.bool e.packed) ∧ w.cell? ⟨b, off + k * 5 + 4, none⟩ = some (.int .i64 e.msg) := by
  obtain ⟨b, off, ha, hlt, hc⟩ := h k e he
  exact ⟨b, off, ha, hlt, hc 0 _ rfl, hc 1 _ rfl, hc 2 _ rfl, hc 3 _ rfl, hc 4 _ rfl⟩
theorem fld_len (e : Fld) : e.cs.length = 5 := rfl
theorem owns_store_fld {w : World} {base g cap n : Nat} {t : TypeId} {L : List Value} (h : w.ownsRow base t 5 (.slice (some ⟨g, 0, none⟩) n cap) n L) (k : Nat) (e : Fld) :
    (((((w.setCell ⟨g, k * 5, none⟩ (.int .i64 e.number)).setCell ⟨g, k * 5 + 1, none⟩ (.int .i64 e.kind)).setCell ⟨g, k * 5 + 2, none⟩ (.bool e.rep)).setCell ⟨g, k * 5 + 3, none⟩ (.bool e.packed)).setCell ⟨g, k * 5 + 4, none⟩ (.int .i64 e.msg)).ownsRow base t 5 (.slice (some ⟨g, 0, none⟩) n cap) n (setRow L (k * 5) e.cs) := by
  have h0 := (h.stored (k * 5) (.int .i64 e.number)).1
  have h1 := (h0.stored (k * 5 + 1) (.int .i64 e.kind)).1
  have h2 := (h1.stored (k * 5 + 2) (.bool e.rep)).1
  have h3 := (h2.stored (k * 5 + 3) (.bool e.packed)).1
  exact (h3.stored (k * 5 + 4) (.int .i64 e.msg)).1
theorem flds_of_own {w' : World} {base n cap : Nat} {a : Option Addr} {t : TypeId} {xs : List Fld} (h : w'.ownsRow base t 5 (.slice a n cap) n (xs.flatMap Fld.cs)) (hn : xs.length = n) : Flds w' a xs := by
  obtain ⟨a', cap', e, _, _, hs⟩ := Sl.of_owns fld_len h hn
  simp only [Value.slice.injEq] at e
  rw [e.1]; exact hs
structure Shp where
  id : Int
  flds : List Fld
  deriving DecidableEq
structure ShR where
  id : Int
  a : Option Addr
  n : Nat
  cap : Nat
@[reducible] def ShR.cs (r : ShR) : List Value := [.int .i64 r.id, .slice r.a r.n r.cap]
theorem shR_len (r : ShR) : r.cs.length = 2 := rfl
def Shs (w : World) (a : Option Addr) (xs : List Shp) : Prop :=
  ∀ (k : Nat) (x : Shp), xs[k]? = some x → ∃ b off a' cap', a = some ⟨b, off, none⟩ ∧ b < w.heap.size ∧ w.cell? ⟨b, off + k * 2, none⟩ = some (.int .i64 x.id) ∧ w.cell? ⟨b, off + k * 2 + 1, none⟩ = some (.slice a' x.flds.length cap') ∧ Flds w a' x.flds
section
variable {w w' : World} {a : Option Addr} {xs : List Shp}
theorem Shs.below {B : Nat} (h : Shs w a xs) (hb : Below B w w') (hB : w.heap.size ≤ B) : Shs w' a xs := by
  intro k x hx
  obtain ⟨b, off, a', cap', ha, hlt, c0, c1, hf⟩ := h k x hx
  exact ⟨b, off, a', cap', ha, Nat.lt_of_lt_of_le hlt hb.size, (hb.cell (p := ⟨b, _, none⟩) (Nat.lt_of_lt_of_le hlt hB)).trans c0, (hb.cell (p := ⟨b, _, none⟩) (Nat.lt_of_lt_of_le hlt hB)).trans c1, hf.below hb hB⟩
theorem Shs.keep (h : Shs w a xs) (hb : Below w.heap.size w w') : Shs w' a xs := h.below hb (Nat.le_refl _)
end
def fldSum (xs : List Shp) : Nat := (xs.map fun x => x.flds.length).sum
structure ShpOk (x : Shp) : Prop where
  id : W64 x.id
  n : x.flds.length ≤ maxLen
  flds : ∀ f ∈ x.flds, f.ok
def RowIs (w : World) (base : Nat) (TF : TypeId) (r : ShR) (x : Shp) : Prop := r.id = x.id ∧ r.n = x.flds.length ∧ w.ownsRow base TF 5 (.slice r.a r.n r.cap) r.n (x.flds.flatMap Fld.cs)
def Apart (rs : List ShR) : Prop := ∀ (i j : Nat) (r s : ShR), rs[i]? = some r → rs[j]? = some s → i ≠ j → ∀ g, (Value.slice r.a r.n r.cap).ownBlock = some g → (Value.slice s.a s.n s.cap).ownBlock ≠ some g
structure OwnShs (w : World) (base : Nat) (T TF : TypeId) (v : Value) (n : Nat) (rs : List ShR) (xs : List Shp) : Prop where
  len : rs.length = n
  lenx : xs.length = n
  outer : w.ownsRow base T 2 v n (rs.flatMap ShR.cs)
  each : ∀ (k : Nat) (r : ShR) (x : Shp), rs[k]? = some r → xs[k]? = some x → RowIs w base TF r x
  apart : Apart rs
theorem Apart.nil : Apart [] := fun i j r s h => by simp at h
theorem Apart.snoc {rs : List ShR} {r : ShR} (h : Apart rs) (hr : ∀ (i : Nat) (s : ShR), rs[i]? = some s → ∀ g, (Value.slice s.a s.n s.cap).ownBlock = some g → (Value.slice r.a r.n r.cap).ownBlock ≠ some g) : Apart (rs ++ [r]) := by
  intro i j x y hx hy hij g hg hg'
  rcases Nat.lt_trichotomy i rs.length with hi | hi | hi
  · rw [List.getElem?_append_left hi] at hx
    rcases Nat.lt_trichotomy j rs.length with hj | hj | hj
    · rw [List.getElem?_append_left hj] at hy
      exact h i j x y hx hy hij g hg hg'
    · rw [List.getElem?_append_right (by omega), hj] at hy
      simp at hy; subst hy
      exact hr i x hx g hg hg'
    · rw [List.getElem?_eq_none (by simp; omega)] at hy; simp at hy
  · rw [List.getElem?_append_right (by omega), hi] at hx
    simp at hx; subst hx
    rcases Nat.lt_trichotomy j rs.length with hj | hj | hj
    · rw [List.getElem?_append_left hj] at hy
      exact hr j y hy g hg' hg
    · omega
    · rw [List.getElem?_eq_none (by simp; omega)] at hy; simp at hy
  · rw [List.getElem?_eq_none (by simp; omega)] at hx; simp at hx
theorem RowIs.below {w w' : World} {B base : Nat} {TF : TypeId} {r : ShR} {x : Shp} (h : RowIs w base TF r x) (hb : Below B w w') (hB : w.heap.size ≤ B) : RowIs w' base TF r x :=
  ⟨h.1, h.2.1, owns_below h.2.2 hb hB⟩
theorem OwnShs.below {w w' : World} {B base : Nat} {T TF : TypeId} {v : Value} {n : Nat} {rs : List ShR} {xs : List Shp} (h : OwnShs w base T TF v n rs xs) (hb : Below B w w') (hB : w.heap.size ≤ B) : OwnShs w' base T TF v n rs xs :=
  ⟨h.len, h.lenx, owns_below h.outer hb hB, fun k r x hr hx => (h.each k r x hr hx).below hb hB, h.apart⟩
theorem OwnShs.shs {w : World} {base : Nat} {T TF : TypeId} {a : Option Addr} {n cap : Nat} {rs : List ShR} {xs : List Shp} (h : OwnShs w base T TF (.slice a n cap) n rs xs) : Shs w a xs := by
  intro k x hx
  have hk : k < xs.length := by
    rcases Nat.lt_or_ge k xs.length with h | h
    · exact h
    · rw [List.getElem?_eq_none h] at hx; simp at hx
  have hkr : k < rs.length := by rw [h.len, ← h.lenx]; exact hk
  obtain ⟨a1, cap1, e, _, _, hs⟩ := Sl.of_owns shR_len h.outer h.len
  simp only [Value.slice.injEq] at e
  obtain ⟨rfl, _, rfl⟩ := e
  obtain ⟨b, off, ha, hlt, hc⟩ := hs k rs[k] (List.getElem?_eq_getElem hkr)
  obtain ⟨h1, h2, h3⟩ := h.each k rs[k] x (List.getElem?_eq_getElem hkr) hx
  have c0 := hc 0 _ rfl
  have c1 := hc 1 _ rfl
  rw [h1] at c0
  rw [h2] at c1
  exact ⟨b, off, rs[k].a, rs[k].cap, ha, hlt, c0, c1, by rw [h2] at h3; exact flds_of_own h3 rfl⟩
theorem RowIs.set {w : World} {base : Nat} {TF : TypeId} {r : ShR} {x : Shp} (h : RowIs w base TF r x) {p : Addr} (hp : p.block < base) (u : Value) : RowIs (w.setCell p u) base TF r x := ⟨h.1, h.2.1, owns_set h.2.2 hp u⟩
theorem OwnShs.set {w : World} {base : Nat} {T TF : TypeId} {v : Value} {n : Nat} {rs : List ShR} {xs : List Shp} (h : OwnShs w base T TF v n rs xs) {p : Addr} (hp : p.block < base) (u : Value) : OwnShs (w.setCell p u) base T TF v n rs xs :=
  ⟨h.len, h.lenx, owns_set h.outer hp u, fun k r x hr hx => (h.each k r x hr hx).set hp u, h.apart⟩
theorem OwnShs.setRow {w : World} {base b : Nat} {T TF : TypeId} {v : Value} {n : Nat} {rs : List ShR} {xs : List Shp} (h : OwnShs w base T TF v n rs xs) (hb : b < base) (cs : Array Value) : OwnShs (w.setRow b cs) base T TF v n rs xs :=
  ⟨h.len, h.lenx, owns_setRow h.outer hb cs, fun k r x hr hx => ⟨(h.each k r x hr hx).1, (h.each k r x hr hx).2.1, owns_setRow (h.each k r x hr hx).2.2 hb cs⟩, h.apart⟩
theorem OwnShs.le {w : World} {base b' : Nat} {T TF : TypeId} {v : Value} {n : Nat} {rs : List ShR} {xs : List Shp} (h : OwnShs w base T TF v n rs xs) (hb : b' ≤ base) : OwnShs w b' T TF v n rs xs :=
  ⟨h.len, h.lenx, owns_le h.outer hb, fun k r x hr hx => ⟨(h.each k r x hr hx).1, (h.each k r x hr hx).2.1, owns_le (h.each k r x hr hx).2.2 hb⟩, h.apart⟩
theorem ShR.store {w : World} {base g cap n : Nat} {t : TypeId} {L : List Value} (h : w.ownsRow base t 2 (.slice (some ⟨g, 0, none⟩) n cap) n L) (k : Nat) (r : ShR) :
    ((w.setCell ⟨g, k * 2, none⟩ (.int .i64 r.id)).setCell ⟨g, k * 2 + 1, none⟩ (.slice r.a r.n r.cap)).ownsRow base t 2 (.slice (some ⟨g, 0, none⟩) n cap) n (setRow L (k * 2) r.cs) := by
  have h0 := (h.stored (k * 2) (.int .i64 r.id)).1
  exact (h0.stored (k * 2 + 1) (.slice r.a r.n r.cap)).1
structure Filling (w : World) (base : Nat) (T TF : TypeId) (v : Value) (n k : Nat) (L : List Value) (rs : List ShR) (xs : List Shp) : Prop where
  len : rs.length = k
  outer : w.ownsRow base T 2 v n L
  head : L.take (k * 2) = rs.flatMap ShR.cs
  each : ∀ (i : Nat) (r : ShR) (x : Shp), rs[i]? = some r → xs[i]? = some x → RowIs w base TF r x
  apart : Apart rs
  old : ∀ (i : Nat) (r : ShR), rs[i]? = some r → ∀ g, (Value.slice r.a r.n r.cap).ownBlock = some g → g < w.heap.size
theorem Filling.step {w w1 : World} {base g n cap k : Nat} {T TF : TypeId} {L : List Value} {rs : List ShR} {xs : List Shp} (h : Filling w base T TF (.slice (some ⟨g, 0, none⟩) n cap) n k L rs xs)
    (hb : Below w.heap.size w w1) (hne : T ≠ TF) (hbase : base ≤ w.heap.size) {x : Shp} (hx : xs[k]? = some x) (hk : k < n) {a : Option Addr} {c : Nat}
    (hr : w1.ownsRow w.heap.size TF 5 (.slice a x.flds.length c) x.flds.length (x.flds.flatMap Fld.cs)) :
    ∃ L' rs', Filling ((w1.setCell ⟨g, k * 2, none⟩ (.int .i64 x.id)).setCell ⟨g, k * 2 + 1, none⟩ (.slice a x.flds.length c)) base T TF (.slice (some ⟨g, 0, none⟩) n cap) n (k + 1) L' rs' xs := by
  have ho1 := owns_below h.outer hb (Nat.le_refl _)
  have hst := ShR.store ho1 k ⟨x.id, a, x.flds.length, c⟩
  have far : ∀ {r : ShR} {y : Shp}, RowIs w1 base TF r y → RowIs ((w1.setCell ⟨g, k * 2, none⟩ (.int .i64 x.id)).setCell ⟨g, k * 2 + 1, none⟩ (.slice a x.flds.length c)) base TF r y := by
    intro r y hry
    obtain ⟨e1, e2, e3⟩ := hry
    refine ⟨e1, e2, ?_⟩
    have hne' : (Value.slice r.a r.n r.cap).ownBlock ≠ some g := by
      intro hg
      obtain ⟨_, hlt⟩ := World.ownsRow.lt e3 g hg
      rcases e3.2 with ⟨e4, _⟩ | ⟨g1, c1, cur1, e4, _, hh1, _⟩
      · rw [e4] at hg; simp [Value.ownBlock] at hg
      · rw [e4] at hg
        simp [Value.ownBlock] at hg
        subst hg
        rcases ho1.2 with ⟨e5, _⟩ | ⟨g2, c2, cur2, e5, _, hh2, _⟩
        · simp at e5
        · simp only [Value.slice.injEq, Option.some.injEq, Addr.mk.injEq] at e5
          obtain ⟨⟨rfl, _, _⟩, _, _⟩ := e5
          rw [hh1] at hh2
          simp at hh2
          exact hne hh2.2.symm
    have k1 := e3.kept (ho1.stored (k * 2) (.int .i64 x.id)).2 (.inr hne')
    exact k1.kept ((ho1.stored (k * 2) (.int .i64 x.id)).1.stored (k * 2 + 1) (.slice a x.flds.length c)).2 (.inr hne')
  refine ⟨_, rs ++ [⟨x.id, a, x.flds.length, c⟩], ?_, hst, ?_, ?_, ?_, ?_⟩
  · simp [h.len]
  · have hL := h.outer.1
    have := setRow_take (ShR.cs ⟨x.id, a, x.flds.length, c⟩) L (k * 2) (by simp only [List.length_cons, List.length_nil]; omega)
    simp only [List.length_cons, List.length_nil] at this
    rw [show (k + 1) * 2 = k * 2 + (0 + 1 + 1) by omega, this, h.head]
    simp
  · intro i r y hr' hy
    rcases Nat.lt_trichotomy i k with hi | hi | hi
    · rw [List.getElem?_append_left (by rw [h.len]; exact hi)] at hr'
      exact far ((h.each i r y hr' hy).below hb (Nat.le_refl _))
    · subst hi
      rw [List.getElem?_append_right (by rw [h.len]; omega), h.len] at hr'
      simp at hr'; subst hr'
      rw [hx] at hy; simp at hy; subst hy
      exact far ⟨rfl, rfl, owns_le hr hbase⟩
    · rw [List.getElem?_eq_none (by simp [h.len]; omega)] at hr'; simp at hr'
  · refine h.apart.snoc fun i s hs b hg hb' => ?_
    have h1 := h.old i s hs b hg
    obtain ⟨h2, _⟩ := World.ownsRow.lt hr b hb'
    omega
  · intro i r hr' b hg
    rcases Nat.lt_trichotomy i k with hi | hi | hi
    · rw [List.getElem?_append_left (by rw [h.len]; exact hi)] at hr'
      have := h.old i r hr' b hg
      have := hb.size
      simp only [World.size_setCell]; omega
    · subst hi
      rw [List.getElem?_append_right (by rw [h.len]; omega), h.len] at hr'
      simp at hr'; subst hr'
      obtain ⟨_, h2⟩ := World.ownsRow.lt hr b hg
      simpa using h2
    · rw [List.getElem?_eq_none (by simp [h.len]; omega)] at hr'; simp at hr'
theorem Filling.below {w w' : World} {B base : Nat} {T TF : TypeId} {v : Value} {n k : Nat} {L : List Value} {rs : List ShR} {xs : List Shp} (h : Filling w base T TF v n k L rs xs) (hb : Below B w w') (hB : w.heap.size ≤ B) : Filling w' base T TF v n k L rs xs :=
  ⟨h.len, owns_below h.outer hb hB, h.head, fun i r x hr hx => (h.each i r x hr hx).below hb hB, h.apart, fun i r hr g hg => Nat.lt_of_lt_of_le (h.old i r hr g hg) hb.size⟩
theorem Filling.own {w : World} {base : Nat} {T TF : TypeId} {v : Value} {n : Nat} {L : List Value} {rs : List ShR} {xs : List Shp} (h : Filling w base T TF v n n L rs xs) (hx : xs.length = n) : OwnShs w base T TF v n rs xs := by
  have hL := h.outer.1
  have h1 := h.head
  rw [List.take_of_length_le (by omega)] at h1
  exact ⟨h.len, hx, by rw [← h1]; exact h.outer, h.each, h.apart⟩
def numOk (n : Int) : Bool := inB n 1 536870911 && !inB n 19000 19999
theorem l6Kind_any (x : Int) (w : World) : Calls Tryd.prog 22 #[.int .i64 x] w fun r w' => r = .returned (.bool (inB x 1 8)) ∧ w = w' := by
  go_enter Tryd.func22, Tryd.ntmps22
  go_wp2_with (first | (go_at_call 21; refine (l1In_any _ _ _ _).mono ?_; rintro r w1 ⟨rfl, rfl⟩))
  go_ret
  exact ⟨rfl, rfl⟩
theorem isKind_any (x : Int) (w : World) : Calls Tryd.prog 26 #[.int .i64 x] w fun r w' => r = .returned (.bool (inB x 1 8)) ∧ w = w' := by
  go_enter Tryd.func26, Tryd.ntmps26
  go_wp2_with (first | (go_at_call 25; refine (within_any _ _ _ _).mono ?_; rintro r w1 ⟨rfl, rfl⟩))
  go_ret
  exact ⟨rfl, rfl⟩
def packOk (f : Fld) : Bool := !(f.packed && (!f.rep || !inB f.kind 1 5))
theorem bytes_cat (a b : List UInt8) : (⟨a.toArray⟩ : ByteArray) ++ ⟨b.toArray⟩ = ⟨(a ++ b).toArray⟩ := by
  apply ByteArray.ext
  simp [ByteArray.data_append]
@[reducible] def sB (l : List UInt8) : ByteArray := ⟨l.toArray⟩
theorem bytes_string (W : World) (g n c : Nat) (xs : List Int) {src dst e : TypeId} (t : TypeId) (h : W.heap[g]? = some (.cells (xs.map (Value.int .u8)).toArray t (0, 0))) (hx : ∀ x ∈ xs, 0 ≤ x ∧ x < 256) (hn : xs.length = n) (hs : Tryd.prog.underlying src = some (.slice e)) (he : Tryd.prog.underlying e = some (.int .u8)) (hd : Tryd.prog.underlying dst = some .string) :
    (convert src dst (.slice (some ⟨g, 0, none⟩) n c)).run Tryd.prog W = .ok (.string ⟨(xs.map fun x => UInt8.ofNat x.toNat).toArray⟩) W := by
  subst hn
  have e0 : (xs.map fun x => UInt8.ofNat x.toNat).length = xs.length := by simp
  rw [← e0]
  refine run_convert_bytes_back W src dst e ⟨g, 0, none⟩ c _ hs he hd fun j hj => ?_
  have hj' : j < xs.length := by simpa using hj
  obtain ⟨h0, h1⟩ := hx xs[j] (List.getElem_mem hj')
  have e1 : ((⟨g, 0, none⟩ : Addr).add j) = ⟨g, j, none⟩ := by
    by_cases h : j = 0
    · subst h; simp [Addr.add]
    · simp [Addr.add, h]
  have e2 : ((UInt8.ofNat xs[j].toNat).toNat : Int) = xs[j] := by
    rw [UInt8.toNat_ofNat']; omega
  rw [e1, List.getElem_map, e2]
  have := box_cells h j
  rw [this]; simp [List.getElem?_toArray, List.getElem?_map, List.getElem?_eq_getElem hj']
@[reducible] def numB (n : Int) : ByteArray := ⟨(Lib.itoa n).toArray⟩
theorem dec_lt {u : Nat} (h : u < 10) : Lib.decDigits u = [UInt8.ofNat (48 + u)] := Lib.decDigits_one h
theorem dec_ge {u : Nat} (h : ¬ u < 10) : Lib.decDigits u = Lib.decDigits (u / 10) ++ [UInt8.ofNat (48 + u % 10)] := by rw [Lib.decDigits, dif_neg h]
def DigRel (N u : Nat) (l : List UInt8) : Prop := if u = 0 then l = Lib.decDigits N else Lib.decDigits N = Lib.decDigits u ++ l
theorem DigRel.start {N : Nat} (h : N ≠ 0) : DigRel N N [] := by unfold DigRel; rw [if_neg h]; simp
theorem DigRel.step {N u : Nat} {l : List UInt8} (h : DigRel N u l) (hu : u ≠ 0) : DigRel N (u / 10) (UInt8.ofNat (48 + u % 10) :: l) := by
  unfold DigRel at h ⊢
  rw [if_neg hu] at h
  by_cases h10 : u < 10
  · rw [if_pos (by omega), h, dec_lt h10, Nat.mod_eq_of_lt h10]; rfl
  · rw [if_neg (by omega), h, dec_ge h10]; simp
theorem DigRel.done {N : Nat} {l : List UInt8} (h : DigRel N 0 l) : l = Lib.decDigits N := by unfold DigRel at h; rw [if_pos rfl] at h; exact h
theorem itoa_zero : Lib.itoa 0 = [48] := by unfold Lib.itoa; rw [if_neg (by omega)]; exact Lib.decDigits_one (by decide)
theorem dec_len {n : Int} (h0 : -9223372036854775808 ≤ n) (h1 : n ≤ 9223372036854775807) : (Lib.decDigits n.natAbs).length ≤ 21 := by
  have := Lib.itoa_length_le n h0 h1
  unfold Lib.itoa at this
  split at this
  · simp at this; omega
  · rw [show n.natAbs = n.toNat by omega]; exact this
theorem DigRel.len {N u : Nat} {l : List UInt8} (h : DigRel N u l) : l.length ≤ (Lib.decDigits N).length := by
  unfold DigRel at h
  split at h
  · rw [h]; exact Nat.le_refl _
  · rw [h, List.length_append]; omega
theorem ofNat_48 (r : Nat) : (48 : UInt8) + UInt8.ofNat r = UInt8.ofNat (48 + r) := by
  apply UInt8.toNat_inj.1; simp [UInt8.toNat_add]
theorem tdiv_ten (m : Int) : (m.tdiv 10).natAbs = m.natAbs / 10 := by rw [Int.natAbs_tdiv]; rfl
theorem tmod_pos {m : Int} (h : 0 ≤ m) : m.tmod 10 = (m.natAbs % 10 : Nat) := by rw [Int.tmod_eq_emod_of_nonneg h]; omega
theorem tmod_neg {m : Int} (h : m < 0) : m.tmod 10 = -(m.natAbs % 10 : Nat) := by
  obtain ⟨u, rfl⟩ : ∃ u : Nat, m = -(u : Int) := ⟨m.natAbs, by omega⟩
  rw [Int.neg_tmod, Int.tmod_eq_emod_of_nonneg (by omega)]; omega
set_option maxRecDepth 100000 in
set_option maxHeartbeats 4000000 in
theorem specDigits_any (n : Int) (w : World) (h0 : -9223372036854775808 ≤ n) (h1 : n ≤ 9223372036854775807) :
    Calls Tryd.prog 23 #[.int .i64 n] w fun r w' => r = .returned (.string (numB n)) ∧ Below w.heap.size w w' := by
  by_cases hn0 : n = 0
  · subst hn0
    go_enter Tryd.func23, Tryd.ntmps23
    go_wp2
    go_ret
    exact ⟨ret_str (by rw [numB, itoa_zero]), by ((repeat (first | (with_reducible exact Below.refl _ _) | (with_reducible assumption) | (with_reducible refine Below.alloc ?_ ?_ _) | (with_reducible refine Below.setCell ?_ ?_ _) | (with_reducible refine Below.drew ?_) | (with_reducible refine below_setRow ?_ ?_ _) | (refine Below.trans ?_ (Below.mono (by assumption) ?_)))); all_goals (first | omega | (simp; done) | (simp; omega)))⟩
  · have hdl := dec_len h0 h1
    have hz' : (n == 0) = false := by simpa using hn0
    go_enter Tryd.func23, Tryd.ntmps23
    go_wp2_with fail
    go_loopw [0, 4] (fun nv ov wr => ∃ m : Int, nv = .int .i64 m ∧ (∃ l, ov = .string ⟨l.toArray⟩ ∧ Hid (DigRel n.natAbs m.natAbs l)) ∧ -9223372036854775808 ≤ m ∧ m ≤ 9223372036854775807 ∧ Below w.heap.size w wr) (fun nv _ _ => (intOf nv).natAbs)
    case atStart => exact ⟨n, rfl, ⟨[], rfl, Lib.hid (DigRel.start (by omega))⟩, h0, h1, Below.refl _ _⟩
    case round =>
      obtain ⟨m, rfl, ⟨l, rfl, HD⟩, hm0, hm1, hb⟩ := hrel
      have hz := hb.size
      by_cases hm : m = 0
      · subst hm
        have hl := HD.out.done
        subst hl
        clear HD
        by_cases hneg : n < 0
        · have hit : Lib.itoa n = 45 :: Lib.decDigits n.natAbs := by unfold Lib.itoa; rw [if_pos hneg]
          have hcat := bytes_cat [45] (Lib.decDigits n.natAbs)
          have hll : ¬ 9223372036854775807 < 1 + (Lib.decDigits n.natAbs).length := by omega
          go_wp2
          go_ret
          exact ⟨ret_str (by rw [numB, hit]; try exact hcat), hb⟩
        · have hit : Lib.itoa n = Lib.decDigits n.natAbs := by unfold Lib.itoa; rw [if_neg hneg]; congr 1; omega
          have hneg' : decide (n < 0) = false := by simpa using hneg
          go_wp2
          go_ret
          exact ⟨ret_str (by rw [numB, hit]), hb⟩
      · have hst := HD.out.step (by omega)
        have hll : ¬ 9223372036854775807 < 1 + l.length := by have := HD.out.len; omega
        have hdv := tdiv_ten m
        obtain ⟨r, hr⟩ : ∃ r, m.natAbs % 10 = r := ⟨_, rfl⟩
        have hr10 : r < 10 := by omega
        have hq : -9223372036854775808 ≤ m.tdiv 10 ∧ m.tdiv 10 ≤ 9223372036854775807 := by omega
        have wq : IntKind.i64.wrap (m.tdiv 10) = m.tdiv 10 := by rw [IntKind.wrap_i64]; omega
        have w8 : IntKind.u8.wrap (48 + (r : Int)) = 48 + r := by rw [IntKind.wrap_u8]; omega
        have w6 : IntKind.i64.wrap (48 + (r : Int)) = 48 + r := by rw [IntKind.wrap_i64]; omega
        have hcv := bytes_string (wr.alloc (.cells #[.int .u8 (48 + r)] 5 (0, 0))) wr.heap.size 1 1 [48 + (r : Int)] (src := 43) (dst := 9) (e := 5) 5 (hset_new rfl) (by intro x hx; simp only [List.mem_cons, List.not_mem_nil, or_false] at hx; omega) rfl Tryd.underlying43 Tryd.underlying5 Tryd.underlying9
        rw [hr] at hst
        have hone : UInt8.ofNat ((48 : Int) + r).toNat = UInt8.ofNat (48 + r) := by congr 1
        simp only [List.map_cons, List.map_nil, hone] at hcv
        have hcat := bytes_cat [UInt8.ofNat (48 + r)] l
        have HST := Lib.hid hst; clear hst HD
        by_cases hneg : m < 0
        · have hmd : m.tmod 10 = -(r : Int) := by rw [tmod_neg hneg, hr]
          have w0 : IntKind.i64.wrap (-(r : Int)) = -r := by rw [IntKind.wrap_i64]; omega
          have w1 : IntKind.i64.wrap (r : Int) = r := by rw [IntKind.wrap_i64]; omega
          clear hneg
          by_cases hr0 : r = 0
          · have hrn : ¬ 0 < r := by omega
            have hrn' : decide (0 < r) = false := by simpa using hrn
            have w6' : IntKind.i64.wrap (48 + -(r : Int)) = 48 + r := by rw [IntKind.wrap_i64]; omega
            clear hr0
            go_wp2_with fail
            go_roundw
            case rel => exact ⟨m.tdiv 10, rfl, ⟨UInt8.ofNat (48 + r) :: l, by rw [ofNat_48]; exact congrArg Value.string hcat, Lib.hid (by rw [hdv]; exact HST.out)⟩, hq.1, hq.2, by ((repeat (first | (with_reducible exact Below.refl _ _) | (with_reducible assumption) | (with_reducible refine Below.alloc ?_ ?_ _) | (with_reducible refine Below.setCell ?_ ?_ _) | (with_reducible refine Below.drew ?_) | (with_reducible refine below_setRow ?_ ?_ _) | (refine Below.trans ?_ (Below.mono (by assumption) ?_)))); all_goals (first | omega | (simp; done) | (simp; omega)))⟩
            case measure => simp only [intOf]; omega
          · have hrp : (-(r : Int) < 0) := by omega
            go_wp2_with fail
            go_roundw
            case rel => exact ⟨m.tdiv 10, rfl, ⟨UInt8.ofNat (48 + r) :: l, by rw [ofNat_48]; exact congrArg Value.string hcat, Lib.hid (by rw [hdv]; exact HST.out)⟩, hq.1, hq.2, by ((repeat (first | (with_reducible exact Below.refl _ _) | (with_reducible assumption) | (with_reducible refine Below.alloc ?_ ?_ _) | (with_reducible refine Below.setCell ?_ ?_ _) | (with_reducible refine Below.drew ?_) | (with_reducible refine below_setRow ?_ ?_ _) | (refine Below.trans ?_ (Below.mono (by assumption) ?_)))); all_goals (first | omega | (simp; done) | (simp; omega)))⟩
            case measure => simp only [intOf]; omega
        · have hmd : m.tmod 10 = (r : Int) := by rw [tmod_pos (by omega), hr]
          have w1 : IntKind.i64.wrap (r : Int) = r := by rw [IntKind.wrap_i64]; omega
          clear hneg
          have hrn : decide ((r : Int) < 0) = false := by simp
          go_wp2_with fail
          go_roundw
          case rel => exact ⟨m.tdiv 10, rfl, ⟨UInt8.ofNat (48 + r) :: l, by rw [ofNat_48]; exact congrArg Value.string hcat, Lib.hid (by rw [hdv]; exact HST.out)⟩, hq.1, hq.2, by ((repeat (first | (with_reducible exact Below.refl _ _) | (with_reducible assumption) | (with_reducible refine Below.alloc ?_ ?_ _) | (with_reducible refine Below.setCell ?_ ?_ _) | (with_reducible refine Below.drew ?_) | (with_reducible refine below_setRow ?_ ?_ _) | (refine Below.trans ?_ (Below.mono (by assumption) ?_)))); all_goals (first | omega | (simp; done) | (simp; omega)))⟩
          case measure => simp only [intOf]; omega
@[reducible] def TabW (w : World) : Prop := Lib.TabIs Tryd.prog w "internal/strconv.uint64pow10" .u64 Lib.pow10Tab
theorem gTab : Tryd.prog.globalNamed "internal/strconv.uint64pow10" = some 3 := by kernel_rfl
theorem TabW.keep {w w' : World} (h : TabW w) (hb : Below w.heap.size w w') : TabW w' := Joins.tab_stays gTab h hb (Nat.le_refl _)
theorem below_growD (w : World) (k : Nat) (os : Array Obj) : Below w.heap.size w (Go.Sort.grow (w.drewN k) os) :=
  (below_drewN (Below.refl w.heap.size w) k).trans ⟨rfl, rfl, rfl, by simp [Go.Sort.grow], fun b hb => by
    show ((w.drewN k).heap ++ os)[b]? = (w.drewN k).heap[b]?
    exact Array.getElem?_append_left hb⟩
theorem implDigits_any (n : Int) (w : World) (ht : TabW w) (h0 : -9223372036854775808 ≤ n) (h1 : n ≤ 9223372036854775807) :
    Calls Tryd.prog 27 #[.int .i64 n] w fun r w' => r = .returned (.string (numB n)) ∧ Below w.heap.size w w' := by
  have HT := Lib.hid ht; clear ht
  go_enter Tryd.func27, Tryd.ntmps27
  go_wp2_with fail
  refine (Tryd.strconv_Itoa n h0 h1 _ HT.out).mono ?_
  rintro r w1 ⟨rfl, k, os, rfl⟩
  go_wp2
  go_ret
  exact ⟨rfl, below_growD _ _ _⟩
def kindWords : List (List UInt8) := [[117, 105, 110, 116], [115, 105, 110, 116], [98, 111, 111, 108], [102, 111, 117, 114], [101, 105, 103, 104, 116], [116, 101, 120, 116], [98, 121, 116, 101, 115], [109, 115, 103]]
def kindL (k : Int) : List UInt8 := if 1 ≤ k then kindWords.getD (k - 1).toNat [] else []
theorem eightK {k : Int} (h1 : 1 ≤ k) (h2 : k ≤ 8) : k = 1 ∨ k = 2 ∨ k = 3 ∨ k = 4 ∨ k = 5 ∨ k = 6 ∨ k = 7 ∨ k = 8 := by omega
theorem kindL_out {k : Int} (h : inB k 1 8 = false) : kindL k = [] := by
  simp only [inB, decide_eq_false_iff_not] at h
  unfold kindL
  split
  · rw [List.getD_eq_getElem?_getD, List.getElem?_eq_none (by simp [kindWords]; omega)]; rfl
  · rfl
set_option maxRecDepth 100000 in
set_option maxHeartbeats 4000000 in
theorem specKindWord_any (k : Int) (w : World) : Calls Tryd.prog 24 #[.int .i64 k] w fun r w' => r = .returned (.string (sB (kindL k))) ∧ Below w.heap.size w w' := by
  by_cases h : 1 ≤ k ∧ k ≤ 8
  · rcases eightK h.1 h.2 with rfl | rfl | rfl | rfl | rfl | rfl | rfl | rfl
    all_goals
      clear h
      go_enter Tryd.func24, Tryd.ntmps24
      go_wp2_with (first | (go_at_call 22; refine (l6Kind_any _ _).mono ?_; rintro r w1 ⟨rfl, rfl⟩))
      go_ret
      exact ⟨rfl, by ((repeat (first | (with_reducible exact Below.refl _ _) | (with_reducible assumption) | (with_reducible refine Below.alloc ?_ ?_ _) | (with_reducible refine Below.setCell ?_ ?_ _) | (with_reducible refine Below.drew ?_) | (with_reducible refine below_setRow ?_ ?_ _) | (refine Below.trans ?_ (Below.mono (by assumption) ?_)))); all_goals (first | omega | (simp; done) | (simp; omega)))⟩
  · have hi : inB k 1 8 = false := by simp only [inB, decide_eq_false_iff_not]; exact h
    have hw := kindL_out hi
    go_enter Tryd.func24, Tryd.ntmps24
    go_wp2_with (first | (go_at_call 22; refine (l6Kind_any _ _).mono ?_; rintro r w1 ⟨rfl, rfl⟩))
    go_ret
    exact ⟨ret_str (by rw [hw]), by ((repeat (first | (with_reducible exact Below.refl _ _) | (with_reducible assumption) | (with_reducible refine Below.alloc ?_ ?_ _) | (with_reducible refine Below.setCell ?_ ?_ _) | (with_reducible refine Below.drew ?_) | (with_reducible refine below_setRow ?_ ?_ _) | (refine Below.trans ?_ (Below.mono (by assumption) ?_)))); all_goals (first | omega | (simp; done) | (simp; omega)))⟩
@[go_sem] def arrElemK (P : Program) (t : TypeId) : TypeId := match P.underlying t with | some (.array _ e) => e | _ => 0
@[go_sem] def arrLenK (P : Program) (t : TypeId) : Nat := match P.underlying t with | some (.array m _) => m | _ => 0
@[go_sem] theorem run_index_arrK {P : Program} {w : World} {t : TypeId} {cs : Array Value} {k : IntKind} {n : Int} (ht : P.underlying t = some (.array (arrLenK P t) (arrElemK P t)))
    (h0 : 0 ≤ n) (h1 : n < arrLenK P t) (hagg : (isAgg (arrElemK P t)).run P w = .ok false w) (hs : (sizeOf (arrElemK P t)).run P w = .ok 1 w) (hv : n.toNat < cs.size) : (Instr.index t (.agg cs) (.int k n)).run P w = .ok (cs.getD n.toNat undef) w := by
  have h2 : 0 ≤ n ∧ n < arrLenK P t := ⟨h0, h1⟩
  simp only [Instr.index, asIntOf, part]
  simp only [Sem.run_bind, Sem.run_pure, Result.andThen_ok, run_underlying ht]
  simp [h2, hagg, hs, hv]
set_option maxRecDepth 100000 in
set_option maxHeartbeats 4000000 in
theorem implKindWord_any (k : Int) (w : World) : Calls Tryd.prog 28 #[.int .i64 k] w fun r w' => r = .returned (.string (sB (kindL k))) ∧ Below w.heap.size w w' := by
  by_cases h : 1 ≤ k ∧ k ≤ 8
  · rcases eightK h.1 h.2 with rfl | rfl | rfl | rfl | rfl | rfl | rfl | rfl
    all_goals
      clear h
      go_enter Tryd.func28, Tryd.ntmps28
      go_wp2_with (first | (go_at_call 26; refine (isKind_any _ _).mono ?_; rintro r w1 ⟨rfl, rfl⟩))
      go_ret
      exact ⟨rfl, by ((repeat (first | (with_reducible exact Below.refl _ _) | (with_reducible assumption) | (with_reducible refine Below.alloc ?_ ?_ _) | (with_reducible refine Below.setCell ?_ ?_ _) | (with_reducible refine Below.drew ?_) | (with_reducible refine below_setRow ?_ ?_ _) | (refine Below.trans ?_ (Below.mono (by assumption) ?_)))); all_goals (first | omega | (simp; done) | (simp; omega)))⟩
  · have hi : inB k 1 8 = false := by simp only [inB, decide_eq_false_iff_not]; exact h
    have hw := kindL_out hi
    go_enter Tryd.func28, Tryd.ntmps28
    go_wp2_with (first | (go_at_call 26; refine (isKind_any _ _).mono ?_; rintro r w1 ⟨rfl, rfl⟩))
    go_ret
    exact ⟨ret_str (by rw [hw]), by ((repeat (first | (with_reducible exact Below.refl _ _) | (with_reducible assumption) | (with_reducible refine Below.alloc ?_ ?_ _) | (with_reducible refine Below.setCell ?_ ?_ _) | (with_reducible refine Below.drew ?_) | (with_reducible refine below_setRow ?_ ?_ _) | (refine Below.trans ?_ (Below.mono (by assumption) ?_)))); all_goals (first | omega | (simp; done) | (simp; omega)))⟩
def fieldOkT (f : Fld) : Bool := inB f.number 1 536870911 && (inB f.kind 1 8 && (if f.kind = 8 then inB f.msg 1 99 else f.msg == 0))
def fieldL (f : Fld) : List UInt8 :=
  if fieldOkT f = true then Lib.itoa f.number ++ [32] ++ kindL f.kind ++ ((if f.kind = 8 then [32] ++ Lib.itoa f.msg else []) ++ ((if f.rep = true then [32, 114, 101, 112, 101, 97, 116, 101, 100] else []) ++ (if f.packed = true then [32, 112, 97, 99, 107, 101, 100] else []))) else []
theorem fieldL_bad {f : Fld} (h : fieldOkT f = false) : fieldL f = [] := by unfold fieldL; rw [h]; rfl
theorem fieldL_ok {f : Fld} (h : fieldOkT f = true) : fieldL f = Lib.itoa f.number ++ [32] ++ kindL f.kind ++ ((if f.kind = 8 then [32] ++ Lib.itoa f.msg else []) ++ ((if f.rep = true then [32, 114, 101, 112, 101, 97, 116, 101, 100] else []) ++ (if f.packed = true then [32, 112, 97, 99, 107, 101, 100] else []))) := if_pos h
theorem kindL_len (k : Int) : (kindL k).length ≤ 5 := by
  by_cases h : 1 ≤ k ∧ k ≤ 8
  · rcases eightK h.1 h.2 with rfl | rfl | rfl | rfl | rfl | rfl | rfl | rfl <;> decide
  · rw [kindL_out (by simp only [inB, decide_eq_false_iff_not]; exact h)]; simp
theorem itoa_len {n : Int} (h : inB n 1 536870911 = true) : (Lib.itoa n).length ≤ 21 := by
  simp only [inB, decide_eq_true_eq] at h
  exact Lib.itoa_length_le n (by omega) (by omega)
set_option maxRecDepth 100000 in
set_option maxHeartbeats 8000000 in
theorem specFieldText_any (f : Fld) (w : World) :
    Calls Tryd.prog 7 #[f.val] w fun r w' => r = .returned (.string (sB (fieldL f))) ∧ Below w.heap.size w w' := by
  obtain ⟨n, k, rp, pk, m⟩ := f
  cases h1 : inB n 1 536870911
  · have hL : fieldL ⟨n, k, rp, pk, m⟩ = [] := fieldL_bad (by simp [fieldOkT, h1])
    go_enter Tryd.func7, Tryd.ntmps7
    go_wp2_with (first | (go_at_call 21; refine (l1In_any _ _ _ _).mono ?_; rintro r w1 ⟨rfl, rfl⟩) | (go_at_call 22; refine (l6Kind_any _ _).mono ?_; rintro r w1 ⟨rfl, rfl⟩))
    go_ret
    exact ⟨ret_str (by rw [hL]), by ((repeat (first | (with_reducible exact Below.refl _ _) | (with_reducible assumption) | (with_reducible refine Below.alloc ?_ ?_ _) | (with_reducible refine Below.setCell ?_ ?_ _) | (with_reducible refine Below.drew ?_) | (with_reducible refine below_setRow ?_ ?_ _) | (refine Below.trans ?_ (Below.mono (by assumption) ?_)))); all_goals (first | omega | (simp; done) | (simp; omega)))⟩
  cases h2 : inB k 1 8
  · have hL : fieldL ⟨n, k, rp, pk, m⟩ = [] := fieldL_bad (by simp [fieldOkT, h2])
    go_enter Tryd.func7, Tryd.ntmps7
    go_wp2_with (first | (go_at_call 21; refine (l1In_any _ _ _ _).mono ?_; rintro r w1 ⟨rfl, rfl⟩) | (go_at_call 22; refine (l6Kind_any _ _).mono ?_; rintro r w1 ⟨rfl, rfl⟩))
    go_ret
    exact ⟨ret_str (by rw [hL]), by ((repeat (first | (with_reducible exact Below.refl _ _) | (with_reducible assumption) | (with_reducible refine Below.alloc ?_ ?_ _) | (with_reducible refine Below.setCell ?_ ?_ _) | (with_reducible refine Below.drew ?_) | (with_reducible refine below_setRow ?_ ?_ _) | (refine Below.trans ?_ (Below.mono (by assumption) ?_)))); all_goals (first | omega | (simp; done) | (simp; omega)))⟩
  have hn : 1 ≤ n ∧ n ≤ 536870911 := by simpa [inB] using h1
  have hA := itoa_len h1
  have hK := kindL_len k
  obtain ⟨A, hAe⟩ : ∃ A, Lib.itoa n = A := ⟨_, rfl⟩
  obtain ⟨K, hKe⟩ : ∃ K, kindL k = K := ⟨_, rfl⟩
  rw [hAe] at hA; rw [hKe] at hK
  have e1 : ¬ 9223372036854775807 < A.length + 1 := by omega
  have e2 : ¬ 9223372036854775807 < A.length + 1 + K.length := by omega
  have e3 : ¬ 9223372036854775807 < A.length + 1 + K.length + 9 := by omega
  have e4 : ¬ 9223372036854775807 < A.length + 1 + K.length + 7 := by omega
  have e5 : ¬ 9223372036854775807 < A.length + 1 + K.length + 9 + 7 := by omega
  have hdig : ∀ W : World,  Calls Tryd.prog 23 #[.int .i64 n] W fun r w' => r = .returned (.string ⟨A.toArray⟩) ∧ Below W.heap.size W w' := fun W => by
    have := specDigits_any n W (by omega) (by omega)
    rw [numB, hAe] at this; exact this
  have hkw : ∀ W : World, Calls Tryd.prog 24 #[.int .i64 k] W fun r w' => r = .returned (.string ⟨K.toArray⟩) ∧ Below W.heap.size W w' := fun W => by
    have := specKindWord_any k W
    rw [hKe] at this; exact this
  by_cases h8 : k = 8
  · subst h8
    cases h3 : inB m 1 99
    · have hL : fieldL ⟨n, 8, rp, pk, m⟩ = [] := fieldL_bad (by simp [fieldOkT, h3])
      go_enter Tryd.func7, Tryd.ntmps7
      go_wp2_with (first | (go_at_call 21; refine (l1In_any _ _ _ _).mono ?_; rintro r w1 ⟨rfl, rfl⟩) | (go_at_call 22; refine (l6Kind_any _ _).mono ?_; rintro r w1 ⟨rfl, rfl⟩))
      go_ret
      exact ⟨ret_str (by rw [hL]), by ((repeat (first | (with_reducible exact Below.refl _ _) | (with_reducible assumption) | (with_reducible refine Below.alloc ?_ ?_ _) | (with_reducible refine Below.setCell ?_ ?_ _) | (with_reducible refine Below.drew ?_) | (with_reducible refine below_setRow ?_ ?_ _) | (refine Below.trans ?_ (Below.mono (by assumption) ?_)))); all_goals (first | omega | (simp; done) | (simp; omega)))⟩
    · have hm : 1 ≤ m ∧ m ≤ 99 := by simpa [inB] using h3
      have hok : fieldOkT ⟨n, 8, rp, pk, m⟩ = true := by simp [fieldOkT, h1, h3]; decide
      have hM := Lib.itoa_length_le m (by omega) (by omega)
      obtain ⟨M, hMe⟩ : ∃ M, Lib.itoa m = M := ⟨_, rfl⟩
      rw [hMe] at hM
      have hdm : ∀ W : World,  Calls Tryd.prog 23 #[.int .i64 m] W fun r w' => r = .returned (.string ⟨M.toArray⟩) ∧ Below W.heap.size W w' := fun W => by
        have := specDigits_any m W (by omega) (by omega)
        rw [numB, hMe] at this; exact this
      have g1 : ¬ 9223372036854775807 < A.length + 1 + K.length + 1 := by omega
      have g2 : ¬ 9223372036854775807 < A.length + 1 + K.length + 1 + M.length := by omega
      have g3 : ¬ 9223372036854775807 < A.length + 1 + K.length + 1 + M.length + 9 := by omega
      have g4 : ¬ 9223372036854775807 < A.length + 1 + K.length + 1 + M.length + 7 := by omega
      have g5 : ¬ 9223372036854775807 < A.length + 1 + K.length + 1 + M.length + 9 + 7 := by omega
      have f1 : ¬ 9223372036854775807 < 1 + M.length := by omega
      have f2 : ¬ 9223372036854775807 < A.length + 1 + K.length + (1 + M.length) := by omega
      have f3 : ¬ 9223372036854775807 < A.length + 1 + K.length + (1 + M.length) + 9 := by omega
      have f4 : ¬ 9223372036854775807 < A.length + 1 + K.length + (1 + M.length) + 7 := by omega
      have f5 : ¬ 9223372036854775807 < A.length + 1 + K.length + (1 + M.length) + 9 + 7 := by omega
      clear hA hK hM
      go_enter Tryd.func7, Tryd.ntmps7
      go_wp2_with (first | (go_at_call 21; refine (l1In_any _ _ _ _).mono ?_; rintro r w1 ⟨rfl, rfl⟩) | (go_at_call 22; refine (l6Kind_any _ _).mono ?_; rintro r w1 ⟨rfl, rfl⟩))
      (refine wp_region_ext (by kernel_rfl) (by kernel_rfl) ?_; (repeat (go_big_quiet_step (first | (go_at_call 23; refine Calls.ext_of (hdig _)) | (go_at_call 24; refine Calls.ext_of (hkw _))))); refine wpQuiet_nil ?_; intro w2 hb2; obtain ⟨hc2, hf2⟩ := bcell hb2; have hz2 := hb2.size; (try simp only [World.size_alloc, World.size_setCell, World.size_drew] at hz2); have hy2_0 : w.heap.size < w2.heap.size := by omega)
      have hb2' : Below w.heap.size w w2 := by ((repeat (first | (with_reducible exact Below.refl _ _) | (with_reducible assumption) | (with_reducible refine Below.alloc ?_ ?_ _) | (with_reducible refine Below.setCell ?_ ?_ _) | (with_reducible refine Below.drew ?_) | (with_reducible refine below_setRow ?_ ?_ _) | (refine Below.trans ?_ (Below.mono (by assumption) ?_)))); all_goals (first | omega | (simp; done) | (simp; omega)))
      cases rp <;> cases pk
      all_goals
        go_wp2_with (first | (go_at_call 23; refine (hdm _).mono ?_; rintro r w3 ⟨rfl, hb3⟩; obtain ⟨hc3, hf3⟩ := bcell hb3; have hz3 := hb3.size; (try simp only [World.size_alloc, World.size_setCell, World.size_drew] at hz3); have hy3_0 : w.heap.size < w3.heap.size := by omega))
        go_ret
        exact ⟨ret_str (by rw [fieldL_ok hok, hAe, hKe]; simp only [hMe]; apply ByteArray.ext; simp [ByteArray.data_append]), by ((repeat (first | (with_reducible exact Below.refl _ _) | (with_reducible assumption) | (with_reducible refine Below.alloc ?_ ?_ _) | (with_reducible refine Below.setCell ?_ ?_ _) | (with_reducible refine Below.drew ?_) | (with_reducible refine below_setRow ?_ ?_ _) | (refine Below.trans ?_ (Below.mono (by assumption) ?_)))); all_goals (first | omega | (simp; done) | (simp; omega)))⟩
  · have h8' : (k == 8) = false := by simpa using h8
    have h8'' : (k != 8) = true := by simpa using h8
    by_cases h3 : m = 0
    · have hok : fieldOkT ⟨n, k, rp, pk, m⟩ = true := by simp [fieldOkT, h1, h2, h3, h8]
      have h3' : (m != 0) = false := by simpa using h3
      clear hA hK
      go_enter Tryd.func7, Tryd.ntmps7
      go_wp2_with (first | (go_at_call 21; refine (l1In_any _ _ _ _).mono ?_; rintro r w1 ⟨rfl, rfl⟩) | (go_at_call 22; refine (l6Kind_any _ _).mono ?_; rintro r w1 ⟨rfl, rfl⟩))
      (refine wp_region_ext (by kernel_rfl) (by kernel_rfl) ?_; (repeat (go_big_quiet_step (first | (go_at_call 23; refine Calls.ext_of (hdig _)) | (go_at_call 24; refine Calls.ext_of (hkw _))))); refine wpQuiet_nil ?_; intro w2 hb2; obtain ⟨hc2, hf2⟩ := bcell hb2; have hz2 := hb2.size; (try simp only [World.size_alloc, World.size_setCell, World.size_drew] at hz2); have hy2_0 : w.heap.size < w2.heap.size := by omega)
      have hb2' : Below w.heap.size w w2 := by ((repeat (first | (with_reducible exact Below.refl _ _) | (with_reducible assumption) | (with_reducible refine Below.alloc ?_ ?_ _) | (with_reducible refine Below.setCell ?_ ?_ _) | (with_reducible refine Below.drew ?_) | (with_reducible refine below_setRow ?_ ?_ _) | (refine Below.trans ?_ (Below.mono (by assumption) ?_)))); all_goals (first | omega | (simp; done) | (simp; omega)))
      cases rp <;> cases pk
      all_goals
        go_wp2_with fail
        go_ret
        exact ⟨ret_str (by rw [fieldL_ok hok, hAe, hKe]; apply ByteArray.ext; simp [ByteArray.data_append, h8]), by ((repeat (first | (with_reducible exact Below.refl _ _) | (with_reducible assumption) | (with_reducible refine Below.alloc ?_ ?_ _) | (with_reducible refine Below.setCell ?_ ?_ _) | (with_reducible refine Below.drew ?_) | (with_reducible refine below_setRow ?_ ?_ _) | (refine Below.trans ?_ (Below.mono (by assumption) ?_)))); all_goals (first | omega | (simp; done) | (simp; omega)))⟩
    · have hL : fieldL ⟨n, k, rp, pk, m⟩ = [] := fieldL_bad (by simp [fieldOkT, h3, h8])
      have h3' : (m != 0) = true := by simpa using h3
      go_enter Tryd.func7, Tryd.ntmps7
      go_wp2_with (first | (go_at_call 21; refine (l1In_any _ _ _ _).mono ?_; rintro r w1 ⟨rfl, rfl⟩) | (go_at_call 22; refine (l6Kind_any _ _).mono ?_; rintro r w1 ⟨rfl, rfl⟩))
      go_ret
      exact ⟨ret_str (by rw [hL]), by ((repeat (first | (with_reducible exact Below.refl _ _) | (with_reducible assumption) | (with_reducible refine Below.alloc ?_ ?_ _) | (with_reducible refine Below.setCell ?_ ?_ _) | (with_reducible refine Below.drew ?_) | (with_reducible refine below_setRow ?_ ?_ _) | (refine Below.trans ?_ (Below.mono (by assumption) ?_)))); all_goals (first | omega | (simp; done) | (simp; omega)))⟩
set_option maxRecDepth 100000 in
set_option maxHeartbeats 8000000 in
theorem implFieldText_any (f : Fld) (w : World) (ht : TabW w) :
    Calls Tryd.prog 9 #[f.val] w fun r w' => r = .returned (.string (sB (fieldL f))) ∧ Below w.heap.size w w' := by
  have HT := Lib.hid ht; clear ht
  obtain ⟨n, k, rp, pk, m⟩ := f
  cases h1 : inB n 1 536870911
  · have hL : fieldL ⟨n, k, rp, pk, m⟩ = [] := fieldL_bad (by simp [fieldOkT, h1])
    go_enter Tryd.func9, Tryd.ntmps9
    go_wp2_with (first | (go_at_call 25; refine (within_any _ _ _ _).mono ?_; rintro r w1 ⟨rfl, rfl⟩) | (go_at_call 26; refine (isKind_any _ _).mono ?_; rintro r w1 ⟨rfl, rfl⟩))
    go_ret
    exact ⟨ret_str (by rw [hL]), by ((repeat (first | (with_reducible exact Below.refl _ _) | (with_reducible assumption) | (with_reducible refine Below.alloc ?_ ?_ _) | (with_reducible refine Below.setCell ?_ ?_ _) | (with_reducible refine Below.drew ?_) | (with_reducible refine below_setRow ?_ ?_ _) | (refine Below.trans ?_ (Below.mono (by assumption) ?_)))); all_goals (first | omega | (simp; done) | (simp; omega)))⟩
  cases h2 : inB k 1 8
  · have hL : fieldL ⟨n, k, rp, pk, m⟩ = [] := fieldL_bad (by simp [fieldOkT, h2])
    go_enter Tryd.func9, Tryd.ntmps9
    go_wp2_with (first | (go_at_call 25; refine (within_any _ _ _ _).mono ?_; rintro r w1 ⟨rfl, rfl⟩) | (go_at_call 26; refine (isKind_any _ _).mono ?_; rintro r w1 ⟨rfl, rfl⟩))
    go_ret
    exact ⟨ret_str (by rw [hL]), by ((repeat (first | (with_reducible exact Below.refl _ _) | (with_reducible assumption) | (with_reducible refine Below.alloc ?_ ?_ _) | (with_reducible refine Below.setCell ?_ ?_ _) | (with_reducible refine Below.drew ?_) | (with_reducible refine below_setRow ?_ ?_ _) | (refine Below.trans ?_ (Below.mono (by assumption) ?_)))); all_goals (first | omega | (simp; done) | (simp; omega)))⟩
  have hn : 1 ≤ n ∧ n ≤ 536870911 := by simpa [inB] using h1
  have hA := itoa_len h1
  have hK := kindL_len k
  obtain ⟨A, hAe⟩ : ∃ A, Lib.itoa n = A := ⟨_, rfl⟩
  obtain ⟨K, hKe⟩ : ∃ K, kindL k = K := ⟨_, rfl⟩
  rw [hAe] at hA; rw [hKe] at hK
  have e1 : ¬ 9223372036854775807 < A.length + 1 := by omega
  have e2 : ¬ 9223372036854775807 < A.length + 1 + K.length := by omega
  have e3 : ¬ 9223372036854775807 < A.length + 1 + K.length + 9 := by omega
  have e4 : ¬ 9223372036854775807 < A.length + 1 + K.length + 7 := by omega
  have e5 : ¬ 9223372036854775807 < A.length + 1 + K.length + 9 + 7 := by omega
  have hdig : ∀ W : World, TabW W → Calls Tryd.prog 27 #[.int .i64 n] W fun r w' => r = .returned (.string ⟨A.toArray⟩) ∧ Below W.heap.size W w' := fun W hW => by
    have := implDigits_any n W hW (by omega) (by omega)
    rw [numB, hAe] at this; exact this
  have hkw : ∀ W : World, Calls Tryd.prog 28 #[.int .i64 k] W fun r w' => r = .returned (.string ⟨K.toArray⟩) ∧ Below W.heap.size W w' := fun W => by
    have := implKindWord_any k W
    rw [hKe] at this; exact this
  by_cases h8 : k = 8
  · subst h8
    cases h3 : inB m 1 99
    · have hL : fieldL ⟨n, 8, rp, pk, m⟩ = [] := fieldL_bad (by simp [fieldOkT, h3])
      go_enter Tryd.func9, Tryd.ntmps9
      go_wp2_with (first | (go_at_call 25; refine (within_any _ _ _ _).mono ?_; rintro r w1 ⟨rfl, rfl⟩) | (go_at_call 26; refine (isKind_any _ _).mono ?_; rintro r w1 ⟨rfl, rfl⟩))
      go_ret
      exact ⟨ret_str (by rw [hL]), by ((repeat (first | (with_reducible exact Below.refl _ _) | (with_reducible assumption) | (with_reducible refine Below.alloc ?_ ?_ _) | (with_reducible refine Below.setCell ?_ ?_ _) | (with_reducible refine Below.drew ?_) | (with_reducible refine below_setRow ?_ ?_ _) | (refine Below.trans ?_ (Below.mono (by assumption) ?_)))); all_goals (first | omega | (simp; done) | (simp; omega)))⟩
    · have hm : 1 ≤ m ∧ m ≤ 99 := by simpa [inB] using h3
      have hok : fieldOkT ⟨n, 8, rp, pk, m⟩ = true := by simp [fieldOkT, h1, h3]; decide
      have hM := Lib.itoa_length_le m (by omega) (by omega)
      obtain ⟨M, hMe⟩ : ∃ M, Lib.itoa m = M := ⟨_, rfl⟩
      rw [hMe] at hM
      have hdm : ∀ W : World, TabW W → Calls Tryd.prog 27 #[.int .i64 m] W fun r w' => r = .returned (.string ⟨M.toArray⟩) ∧ Below W.heap.size W w' := fun W hW => by
        have := implDigits_any m W hW (by omega) (by omega)
        rw [numB, hMe] at this; exact this
      have g1 : ¬ 9223372036854775807 < A.length + 1 + K.length + 1 := by omega
      have g2 : ¬ 9223372036854775807 < A.length + 1 + K.length + 1 + M.length := by omega
      have g3 : ¬ 9223372036854775807 < A.length + 1 + K.length + 1 + M.length + 9 := by omega
      have g4 : ¬ 9223372036854775807 < A.length + 1 + K.length + 1 + M.length + 7 := by omega
      have g5 : ¬ 9223372036854775807 < A.length + 1 + K.length + 1 + M.length + 9 + 7 := by omega
      have f1 : ¬ 9223372036854775807 < 1 + M.length := by omega
      have f2 : ¬ 9223372036854775807 < A.length + 1 + K.length + (1 + M.length) := by omega
      have f3 : ¬ 9223372036854775807 < A.length + 1 + K.length + (1 + M.length) + 9 := by omega
      have f4 : ¬ 9223372036854775807 < A.length + 1 + K.length + (1 + M.length) + 7 := by omega
      have f5 : ¬ 9223372036854775807 < A.length + 1 + K.length + (1 + M.length) + 9 + 7 := by omega
      clear hA hK hM
      go_enter Tryd.func9, Tryd.ntmps9
      go_wp2_with (first | (go_at_call 25; refine (within_any _ _ _ _).mono ?_; rintro r w1 ⟨rfl, rfl⟩) | (go_at_call 26; refine (isKind_any _ _).mono ?_; rintro r w1 ⟨rfl, rfl⟩))
      (refine wp_region_ext (by kernel_rfl) (by kernel_rfl) ?_; (repeat (go_big_quiet_step (first | (go_at_call 27; refine Calls.ext_of (hdig _ (HT.out.keep (show Below w.heap.size w _ from Below.trans ((Below.refl _ _).alloc (Nat.le_refl _) _) ((World.ext_below _ _).mono (by simp)))))) | (go_at_call 28; refine Calls.ext_of (hkw _))))); refine wpQuiet_nil ?_; intro w2 hb2; obtain ⟨hc2, hf2⟩ := bcell hb2; have hz2 := hb2.size; (try simp only [World.size_alloc, World.size_setCell, World.size_drew] at hz2); have hy2_0 : w.heap.size < w2.heap.size := by omega)
      have hb2' : Below w.heap.size w w2 := by ((repeat (first | (with_reducible exact Below.refl _ _) | (with_reducible assumption) | (with_reducible refine Below.alloc ?_ ?_ _) | (with_reducible refine Below.setCell ?_ ?_ _) | (with_reducible refine Below.drew ?_) | (with_reducible refine below_setRow ?_ ?_ _) | (refine Below.trans ?_ (Below.mono (by assumption) ?_)))); all_goals (first | omega | (simp; done) | (simp; omega)))
      cases rp <;> cases pk
      all_goals
        go_wp2_with (first | (go_at_call 27; refine (hdm _ (HT.out.keep (show Below w.heap.size w _ from by ((repeat (first | (with_reducible exact Below.refl _ _) | (with_reducible assumption) | (with_reducible refine Below.alloc ?_ ?_ _) | (with_reducible refine Below.setCell ?_ ?_ _) | (with_reducible refine Below.drew ?_) | (with_reducible refine below_setRow ?_ ?_ _) | (refine Below.trans ?_ (Below.mono (by assumption) ?_)))); all_goals (first | omega | (simp; done) | (simp; omega)))))).mono ?_; rintro r w3 ⟨rfl, hb3⟩; obtain ⟨hc3, hf3⟩ := bcell hb3; have hz3 := hb3.size; (try simp only [World.size_alloc, World.size_setCell, World.size_drew] at hz3); have hy3_0 : w.heap.size < w3.heap.size := by omega))
        go_ret
        exact ⟨ret_str (by rw [fieldL_ok hok, hAe, hKe]; simp only [hMe]; apply ByteArray.ext; simp [ByteArray.data_append]), by ((repeat (first | (with_reducible exact Below.refl _ _) | (with_reducible assumption) | (with_reducible refine Below.alloc ?_ ?_ _) | (with_reducible refine Below.setCell ?_ ?_ _) | (with_reducible refine Below.drew ?_) | (with_reducible refine below_setRow ?_ ?_ _) | (refine Below.trans ?_ (Below.mono (by assumption) ?_)))); all_goals (first | omega | (simp; done) | (simp; omega)))⟩
  · have h8' : (k == 8) = false := by simpa using h8
    have h8'' : (k != 8) = true := by simpa using h8
    by_cases h3 : m = 0
    · have hok : fieldOkT ⟨n, k, rp, pk, m⟩ = true := by simp [fieldOkT, h1, h2, h3, h8]
      have h3' : (m != 0) = false := by simpa using h3
      clear hA hK
      go_enter Tryd.func9, Tryd.ntmps9
      go_wp2_with (first | (go_at_call 25; refine (within_any _ _ _ _).mono ?_; rintro r w1 ⟨rfl, rfl⟩) | (go_at_call 26; refine (isKind_any _ _).mono ?_; rintro r w1 ⟨rfl, rfl⟩))
      (refine wp_region_ext (by kernel_rfl) (by kernel_rfl) ?_; (repeat (go_big_quiet_step (first | (go_at_call 27; refine Calls.ext_of (hdig _ (HT.out.keep (show Below w.heap.size w _ from Below.trans ((Below.refl _ _).alloc (Nat.le_refl _) _) ((World.ext_below _ _).mono (by simp)))))) | (go_at_call 28; refine Calls.ext_of (hkw _))))); refine wpQuiet_nil ?_; intro w2 hb2; obtain ⟨hc2, hf2⟩ := bcell hb2; have hz2 := hb2.size; (try simp only [World.size_alloc, World.size_setCell, World.size_drew] at hz2); have hy2_0 : w.heap.size < w2.heap.size := by omega)
      have hb2' : Below w.heap.size w w2 := by ((repeat (first | (with_reducible exact Below.refl _ _) | (with_reducible assumption) | (with_reducible refine Below.alloc ?_ ?_ _) | (with_reducible refine Below.setCell ?_ ?_ _) | (with_reducible refine Below.drew ?_) | (with_reducible refine below_setRow ?_ ?_ _) | (refine Below.trans ?_ (Below.mono (by assumption) ?_)))); all_goals (first | omega | (simp; done) | (simp; omega)))
      cases rp <;> cases pk
      all_goals
        go_wp2_with fail
        go_ret
        exact ⟨ret_str (by rw [fieldL_ok hok, hAe, hKe]; apply ByteArray.ext; simp [ByteArray.data_append, h8]), by ((repeat (first | (with_reducible exact Below.refl _ _) | (with_reducible assumption) | (with_reducible refine Below.alloc ?_ ?_ _) | (with_reducible refine Below.setCell ?_ ?_ _) | (with_reducible refine Below.drew ?_) | (with_reducible refine below_setRow ?_ ?_ _) | (refine Below.trans ?_ (Below.mono (by assumption) ?_)))); all_goals (first | omega | (simp; done) | (simp; omega)))⟩
    · have hL : fieldL ⟨n, k, rp, pk, m⟩ = [] := fieldL_bad (by simp [fieldOkT, h3, h8])
      have h3' : (m != 0) = true := by simpa using h3
      go_enter Tryd.func9, Tryd.ntmps9
      go_wp2_with (first | (go_at_call 25; refine (within_any _ _ _ _).mono ?_; rintro r w1 ⟨rfl, rfl⟩) | (go_at_call 26; refine (isKind_any _ _).mono ?_; rintro r w1 ⟨rfl, rfl⟩))
      go_ret
      exact ⟨ret_str (by rw [hL]), by ((repeat (first | (with_reducible exact Below.refl _ _) | (with_reducible assumption) | (with_reducible refine Below.alloc ?_ ?_ _) | (with_reducible refine Below.setCell ?_ ?_ _) | (with_reducible refine Below.drew ?_) | (with_reducible refine below_setRow ?_ ?_ _) | (refine Below.trans ?_ (Below.mono (by assumption) ?_)))); all_goals (first | omega | (simp; done) | (simp; omega)))⟩
theorem decFrom_append : ∀ (l r : List UInt8) (acc : Nat), Lib.decFrom acc (l ++ r) = (Lib.decFrom acc l).bind fun n => Lib.decFrom n r
  | [], r, acc => rfl
  | b :: l, r, acc => by
    simp only [List.cons_append, Lib.decFrom]
    cases Lib.digitVal b with
    | none => rfl
    | some d => exact decFrom_append l r _
theorem digitVal_of {r : Nat} (h : r < 10) : Lib.digitVal (UInt8.ofNat (48 + r)) = some r := by
  have : (UInt8.ofNat (48 + r)).toNat = 48 + r := by rw [UInt8.toNat_ofNat']; omega
  rw [Lib.digitVal, this, if_pos (by omega)]; congr 1; omega
theorem decFrom_dec (u : Nat) : Lib.decFrom 0 (Lib.decDigits u) = some u := by
  induction u using Nat.strongRecOn with
  | _ u ih =>
    by_cases h : u < 10
    · rw [dec_lt h]; simp only [Lib.decFrom, digitVal_of h, Option.some.injEq]; omega
    · rw [dec_ge h, decFrom_append, ih (u / 10) (by omega)]
      simp only [Option.bind_some, Lib.decFrom, digitVal_of (show u % 10 < 10 by omega), Option.some.injEq]
      omega
theorem nDig_le : ∀ (k u : Nat), 1 ≤ k → u < 10 ^ k → Lib.nDigits u ≤ k
  | 0, u, h, _ => by omega
  | 1, u, _, h => by rw [Lib.nDigits_small (by simpa using h)]; omega
  | k + 2, u, _, h => by
    by_cases h10 : u < 10
    · rw [Lib.nDigits_small h10]; omega
    · rw [Lib.nDigits_big h10]
      have := nDig_le (k + 1) (u / 10) (by omega) (by rw [Nat.pow_succ] at h; omega)
      omega
theorem dec_ne (u : Nat) : Lib.decDigits u ≠ [] := by
  intro e
  have := congrArg List.length e
  rw [Lib.decDigits_length] at this
  have := Lib.nDigits_pos u
  simp at *; omega
def numUpto (lim : Nat) (l : List UInt8) : Option Nat :=
  match Lib.decFrom 0 l with
  | some v => if l = Lib.decDigits v ∧ v ≤ lim then some v else none
  | none => none
theorem numUpto_yes {lim v : Nat} (h : v ≤ lim) : numUpto lim (Lib.decDigits v) = some v := by
  simp only [numUpto, decFrom_dec]; rw [if_pos ⟨trivial, h⟩]
theorem numUpto_some {lim v : Nat} {l : List UInt8} (h : numUpto lim l = some v) : l = Lib.decDigits v ∧ v ≤ lim := by
  simp only [numUpto] at h
  split at h
  · split at h
    · rename_i hc; simp at h; subst h; exact hc
    · cases h
  · cases h
@[reducible] def optU (o : Option Nat) : Value := .tuple #[.int .u64 (o.getD 0 : Nat), .bool o.isSome]
@[reducible] def optI (o : Option Nat) : Value := .tuple #[.int .i64 (o.getD 0 : Nat), .bool o.isSome]
@[reducible] def bL (s : ByteArray) : List UInt8 := s.data.toList
theorem bL_len (s : ByteArray) : (bL s).length = s.size := by rw [bL, Array.length_toList]; try rfl
theorem str_of_bL (s : ByteArray) : s = ⟨(bL s).toArray⟩ := by
  obtain ⟨d⟩ := s
  show ByteArray.mk d = ByteArray.mk d.toList.toArray
  rw [Array.toArray_toList]
theorem str_inj {s : ByteArray} {l : List UInt8} (h : bL s = l) : s = ⟨l.toArray⟩ := by subst h; exact str_of_bL s
def numOf (s : ByteArray) : Option Nat := numUpto 999999999 (bL s)
theorem atoi_dec {v : Nat} (h : v ≤ 999999999) : Lib.atoiAll (Lib.decDigits v) = .ok (v : Int) := by
  have hl : (Lib.decDigits v).length ≤ 18 := by rw [Lib.decDigits_length]; exact Nat.le_trans (nDig_le 9 v (by omega) (by omega)) (by omega)
  rw [Lib.atoiAll_short _ hl]
  have hd := decFrom_dec v
  obtain ⟨b, r, hbr⟩ : ∃ b r, Lib.decDigits v = b :: r := by
    cases h : Lib.decDigits v with
    | nil => exact absurd h (dec_ne v)
    | cons b r => exact ⟨b, r, rfl⟩
  rw [hbr] at hd ⊢
  have hb : Lib.digitVal b ≠ none := by
    intro e
    simp only [Lib.decFrom, e] at hd
    cases hd
  have h45 : (b == 45) = false := by
    rw [beq_eq_false_iff_ne]; rintro rfl; exact hb (by decide)
  have h43 : (b == 43) = false := by
    rw [beq_eq_false_iff_ne]; rintro rfl; exact hb (by decide)
  simp only [Lib.atoi, h45, h43, Lib.decNat, List.isEmpty_cons, hd]
  rfl
structure NumW (w : World) : Prop where
  tab : TabW w
  syn : ∃ tp p, w.var? Tryd.prog "strconv.ErrSyntax" = some #[.iface tp p]
  rng : ∃ tp p, w.var? Tryd.prog "strconv.ErrRange" = some #[.iface tp p]
theorem gSyn : Tryd.prog.globalNamed "strconv.ErrSyntax" = some 1 := by kernel_rfl
theorem gRng : Tryd.prog.globalNamed "strconv.ErrRange" = some 2 := by kernel_rfl
theorem NumW.keep {w w' : World} (h : NumW w) (hb : Below w.heap.size w w') : NumW w' := by
  obtain ⟨ht, ⟨t1, p1, h1⟩, ⟨t2, p2, h2⟩⟩ := h
  exact ⟨ht.keep hb, ⟨t1, p1, Joins.var_stays gSyn h1 hb (Nat.le_refl _)⟩, ⟨t2, p2, Joins.var_stays gRng h2 hb (Nat.le_refl _)⟩⟩
theorem below_bytesW {w w' : World} (h : w' = w ∨ ∃ t, w' = Lib.bytesWorld w 5 t) : Below w.heap.size w w' := by
  rcases h with rfl | ⟨t, rfl⟩
  · exact Below.refl _ _
  · exact Joins.below_bytesWorld _ _ _ _ (Nat.le_refl _)
set_option maxRecDepth 100000 in
set_option maxHeartbeats 4000000 in
theorem implNumber_any (s : ByteArray) (w : World) (hw : NumW w) (hs : s.size ≤ 1048576) :
    Calls Tryd.prog 39 #[.string s] w fun r w' => r = .returned (optI (numOf s)) ∧ Below w.heap.size w w' := by
  have HW := Lib.hid hw; clear hw
  obtain ⟨R, hR⟩ : ∃ R, numOf s = R := ⟨_, rfl⟩
  rw [hR]
  have hdec : ∀ u, R = some u → bL s = Lib.decDigits u ∧ u ≤ 999999999 := fun u e => numUpto_some (by rw [← e, ← hR]; rfl)
  cases hA : Lib.atoiAll (bL s) with
  | ok v =>
    have hcall : ∀ W : World, Calls Tryd.prog 54 #[.string s] W fun r w' => r = .returned (.tuple #[.int .i64 v, .nilIface]) ∧ Below W.heap.size W w' := fun W => by
      refine (Tryd.strconv_Atoi_ok s (by omega) v hA W).mono ?_
      rintro r w' ⟨rfl, h⟩
      exact ⟨rfl, below_bytesW h⟩
    cases hin : inB v 0 999999999
    · have hRn : R = none := by
        cases R with
        | none => rfl
        | some u =>
          obtain ⟨h1, h2⟩ := hdec u rfl
          rw [h1, atoi_dec h2] at hA
          injection hA with hA
          subst hA
          simp only [inB, decide_eq_false_iff_not] at hin
          omega
      subst hRn
      clear hdec hR hA
      go_enter Tryd.func39, Tryd.ntmps39
      go_wp2_with fail
      refine (hcall _).mono ?_
      rintro r w1 ⟨rfl, hb1⟩
      go_wp2_with (first | (go_at_call 25; refine (within_any _ _ _ _).mono ?_; rintro r w1 ⟨rfl, rfl⟩))
      go_ret2
      exact ⟨rfl, hb1⟩
    · have hv : 0 ≤ v ∧ v ≤ 999999999 := by simpa [inB] using hin
      obtain ⟨u, rfl⟩ := Int.eq_ofNat_of_zero_le hv.1
      have hu : u ≤ 999999999 := by omega
      have hit : Lib.itoa (u : Int) = Lib.decDigits u := by unfold Lib.itoa; rw [if_neg (by omega)]; congr 1
      obtain ⟨S, hS⟩ : ∃ S, numB (u : Int) = S := ⟨_, rfl⟩
      have hdig : ∀ W : World, TabW W → Calls Tryd.prog 27 #[.int .i64 u] W fun r w' => r = .returned (.string S) ∧ Below W.heap.size W w' := fun W hW => by
        have := implDigits_any (u : Int) W hW (by omega) (by omega)
        rw [hS] at this; exact this
      by_cases he : S = s
      · have hRu : R = some u := by
          rw [← hR, numOf, ← he, ← hS, numB, hit]
          exact numUpto_yes hu
        subst hRu
        clear hdec hR hA hS hv
        subst he
        go_enter Tryd.func39, Tryd.ntmps39
        go_wp2_with fail
        refine (hcall _).mono ?_
        rintro r w1 ⟨rfl, hb1⟩
        go_wp2_with (first | (go_at_call 25; refine (within_any _ _ _ _).mono ?_; rintro r w1 ⟨rfl, rfl⟩))
        refine (hdig _ (HW.out.keep hb1).tab).mono ?_
        rintro r w2 ⟨rfl, hb2⟩
        go_wp2
        go_ret2
        exact ⟨rfl, hb1.trans (hb2.mono hb1.size)⟩
      · have hRn : R = none := by
          cases R with
          | none => rfl
          | some u' =>
            obtain ⟨h1, h2⟩ := hdec u' rfl
            rw [h1, atoi_dec h2] at hA
            injection hA with hA
            exfalso
            apply he
            rw [← hS, numB, hit, str_inj h1]
            have : u' = u := by omega
            rw [this]
        subst hRn
        have he2 : (S.toList == s.toList) = false := by rw [beq_bytes]; simpa using he
        clear hdec hR hA hS hv
        go_enter Tryd.func39, Tryd.ntmps39
        go_wp2_with fail
        refine (hcall _).mono ?_
        rintro r w1 ⟨rfl, hb1⟩
        go_wp2_with (first | (go_at_call 25; refine (within_any _ _ _ _).mono ?_; rintro r w1 ⟨rfl, rfl⟩))
        refine (hdig _ (HW.out.keep hb1).tab).mono ?_
        rintro r w2 ⟨rfl, hb2⟩
        go_wp2
        go_ret2
        exact ⟨rfl, hb1.trans (hb2.mono hb1.size)⟩
  | range =>
    have hRn : R = none := by
      cases R with
      | none => rfl
      | some u => obtain ⟨h1, h2⟩ := hdec u rfl; rw [h1, atoi_dec h2] at hA; cases hA
    subst hRn
    obtain ⟨tp, p, hvar⟩ := HW.out.rng
    have HV := Lib.hid hvar
    clear hdec hR hvar
    go_enter Tryd.func39, Tryd.ntmps39
    go_wp2_with fail
    refine (Tryd.strconv_Atoi_range_var s (by omega) hA tp p _ HV.out).mono ?_
    rintro r w1 ⟨N, rfl, hN, hblk, hb1⟩
    clear hA hblk
    go_wp2
    go_ret2
    exact ⟨rfl, hb1⟩
  | _ =>
    have hRn : R = none := by
      cases R with
      | none => rfl
      | some u => obtain ⟨h1, h2⟩ := hdec u rfl; rw [h1, atoi_dec h2] at hA; cases hA
    subst hRn
    obtain ⟨tp, p, hvar⟩ := HW.out.syn
    have HV := Lib.hid hvar
    have hcA : ∀ W : World, W.var? Tryd.prog "strconv.ErrSyntax" = some #[.iface tp p] → Calls Tryd.prog 54 #[.string s] W fun e w' => ∃ N, e = .returned (.tuple #[.int .i64 0, .iface 127 (.pointer (some ⟨N, 0, none⟩))]) ∧ Below W.heap.size W w' := fun W hW =>
      (Any.strconv_Atoi_syntax_var Tryd.laysC172 s (by omega) hA tp p W hW).mono fun e w' ⟨N, h1, _, _, h2⟩ => ⟨N, h1, h2⟩
    clear hdec hR hvar
    go_enter Tryd.func39, Tryd.ntmps39
    go_wp2_with fail
    refine (hcA _ HV.out).mono ?_
    rintro r w1 ⟨N, rfl, hb1⟩
    clear hA hcA
    go_wp2
    go_ret2
    exact ⟨rfl, hb1⟩
structure Pl where
  root : Int
  deep : Int
  most : Int
  deriving DecidableEq
@[reducible] def Pl.val (p : Pl) (sh : Value) : Value := .agg #[sh, .int .i64 p.root, .int .i64 p.deep, .int .i64 p.most]
@[reducible] def fldCK : List CK := [CK.int .i64, .int .i64, .bool, .bool, .int .i64]
@[reducible] def shpCK : List CK := [CK.int .i64, .sl fldCK]
structure ShArg where
  a : Option Addr
  cap : Nat
  xs : List Shp
@[reducible] def ShArg.sl (x : ShArg) : Value := .slice x.a x.xs.length x.cap
structure ShArg.ok (x : ShArg) (w : World) : Prop where
  sh : Shs w x.a x.xs
  each : ∀ e ∈ x.xs, ShpOk e
  le : x.xs.length ≤ x.cap
  cap : x.cap ≤ maxLen
section
variable {H : Type} {enc : TypeId × Value → H} {W : World} {base : Nat} {sp : Nat → Bool} {v : Value} {d : DataW H} {ps : List MemPlace}
end
structure Lvl where
  msg : Int
  left : Int
  deriving DecidableEq
@[reducible] def Lvl.cs (f : Lvl) : List Value := [.int .i64 f.msg, .int .i64 f.left]
@[reducible] def Lvl.val (f : Lvl) : Value := .agg #[.int .i64 f.msg, .int .i64 f.left]
structure Lvl.ok (f : Lvl) : Prop where
  msg : W64 f.msg
  left : W64 f.left
@[reducible] def Lvls := Sl 2 Lvl.cs
theorem Lvls.at {w : World} {a : Option Addr} {xs : List Lvl} (h : Lvls w a xs) {k : Nat} {e : Lvl} (he : xs[k]? = some e) :
    ∃ b off, a = some ⟨b, off, none⟩ ∧ b < w.heap.size ∧ w.cell? ⟨b, off + k * 2, none⟩ = some (.int .i64 e.msg) ∧ w.cell? ⟨b, off + k * 2 + 1, none⟩ = some (.int .i64 e.left) := by
  obtain ⟨b, off, ha, hlt, hc⟩ := h k e he
  exact ⟨b, off, ha, hlt, hc 0 _ rfl, hc 1 _ rfl⟩
structure Ut where
  want : Int
  low : Int
  high : Int
  deriving DecidableEq
@[reducible] def Ut.val (u : Ut) : Value := .agg #[.int .i64 u.want, .int .i64 u.low, .int .i64 u.high]
structure Dc where
  p : Pl
  mode : Int
  bits : Int
  have_ : Int
  start : Int
  at_ : Int
  field : Fld
  wire : Int
  want : Int
  utf : Ut
  end_ : Ev
  deriving DecidableEq
@[reducible] def Dc.val (d : Dc) (sh st : Value) : Value := .agg #[sh, .int .i64 d.p.root, .int .i64 d.p.deep, .int .i64 d.p.most, .int .i64 d.mode, st, .int .u64 d.bits, .int .i64 d.have_, .int .i64 d.start, .int .i64 d.at_, .int .i64 d.field.number, .int .i64 d.field.kind, .bool d.field.rep, .bool d.field.packed, .int .i64 d.field.msg, .int .i64 d.wire, .int .i64 d.want, .int .i64 d.utf.want, .int .i64 d.utf.low, .int .i64 d.utf.high, .int .i64 d.end_.kind, .int .i64 d.end_.field, .int .u64 d.end_.bits, .int .i64 d.end_.len, .string d.end_.text, .int .i64 d.end_.code, .int .i64 d.end_.at_]
@[reducible] def Dc.cl (d : Dc) (sh st : Value) : List Value := [sh, .int .i64 d.p.root, .int .i64 d.p.deep, .int .i64 d.p.most, .int .i64 d.mode, st, .int .u64 d.bits, .int .i64 d.have_, .int .i64 d.start, .int .i64 d.at_, .int .i64 d.field.number, .int .i64 d.field.kind, .bool d.field.rep, .bool d.field.packed, .int .i64 d.field.msg, .int .i64 d.wire, .int .i64 d.want, .int .i64 d.utf.want, .int .i64 d.utf.low, .int .i64 d.utf.high, .int .i64 d.end_.kind, .int .i64 d.end_.field, .int .u64 d.end_.bits, .int .i64 d.end_.len, .string d.end_.text, .int .i64 d.end_.code, .int .i64 d.end_.at_]
structure Dc.ok (d : Dc) : Prop where
  root : W64 d.p.root
  deep : W64 d.p.deep
  most : W64 d.p.most
  mode : W64 d.mode
  bits : WU64 d.bits
  have_ : W64 d.have_
  start : W64 d.start
  at_ : W64 d.at_
  field : d.field.ok
  wire : W64 d.wire
  want : W64 d.want
  uwant : W64 d.utf.want
  ulow : W64 d.utf.low
  uhigh : W64 d.utf.high
  end_ : d.end_.ok
@[reducible] def lvlCK : List CK := [CK.int .i64, .int .i64]
structure DcArg where
  d : Dc
  s : ShArg
  l : SlArg Lvl
@[reducible] def DcArg.val (x : DcArg) : Value := x.d.val x.s.sl x.l.val
structure DcArg.ok (x : DcArg) (w : World) : Prop where
  d : x.d.ok
  s : x.s.ok w
  l : x.l.ok 2 Lvl.cs Lvl.ok w
@[reducible] def bv (l : List UInt8) : List Value := l.map fun b => Value.int .u8 (b.toNat : Int)
end Go.Proofs.YtbpilecgnfnndaaDoor

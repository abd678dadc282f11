/- Failing: the reference. -/
import Derived.Test.YtigmdaiecdoimaaCpyD
import Derived.Test.YtigmdaiecdoimaaStl
import Derived.Test.YtigmdaiecdoimaaMarkE
namespace Go.Proofs.Ytigmdaiecdoimaa
set_option linter.unusedSimpArgs false
set_option linter.unusedVariables false
open Go.ChangeShapes Go.WideShapes Go.ChangeAt Go.RowKit Go.BigFrame

/-- A decoder and events in memory of the call's own. -/
def FreshDE (w : World) (T TF TL TE : TypeId) (xs : List Shp) (O : Outc) (r : Ending) (w' : World) : Prop :=
  ∃ a cap rs sa scap ea ecap, r = .returned (.tuple #[O.1.val (.slice a xs.length cap) (.slice sa O.2.1.length scap), .slice ea O.2.2.length ecap]) ∧ OwnShs w' w.heap.size T TF (.slice a xs.length cap) xs.length rs xs
    ∧ w'.ownsRow w.heap.size TL 2 (.slice sa O.2.1.length scap) O.2.1.length (O.2.1.flatMap Lvl.cs) ∧ w'.ownsRow w.heap.size TE 7 (.slice ea O.2.2.length ecap) O.2.2.length (O.2.2.flatMap Ev.cs) ∧ Below w.heap.size w w'
theorem World.ownsRow.of_box (w : World) (e : Ev) (t : TypeId) : (w.alloc (.cells e.cs.toArray t)).ownsRow w.heap.size t 7 (.slice (some ⟨w.heap.size, 0, none⟩) 1 1) 1 e.cs :=
  ⟨by simp, .inr ⟨w.heap.size, 1, e.cs.toArray, rfl, Nat.le_refl _, heap_nth0 w _, Nat.le_refl _, by unfold maxLen; omega, by simp, by simp⟩⟩
theorem specFailE_any (c t : Int) (w : World) : Calls Try.prog 166 #[.int .i64 c, .int .i64 t] w fun r w' => r = .returned (failE c t).val ∧ Below w.heap.size w w' := by
  go_enter Try.func166, Try.ntmps166
  go_wp2
  exact bodyPost_ret (by simp [results, Try.results166, go_sem, failE]; try rfl) rfl ⟨rfl, by ((repeat (first | (with_reducible exact Below.refl _ _) | (with_reducible assumption) | (with_reducible refine Below.alloc ?_ ?_ _) | (with_reducible refine Below.setCell ?_ ?_ _) | (with_reducible refine Below.drew ?_) | (with_reducible refine below_setRow ?_ ?_ _) | (refine Below.trans ?_ (Below.mono (by assumption) ?_)))); all_goals (first | omega | (simp; done) | (simp; omega)))⟩
set_option maxRecDepth 100000 in
set_option maxHeartbeats 600000 in
theorem l15Fail_any (d : Dc) (a : Option Addr) (cap n : Nat) (sa : Option Addr) (scap m : Nat) (c t : Int) (w : World) :
    Calls Try.prog 120 #[d.val (.slice a n cap) (.slice sa m scap), .int .i64 c, .int .i64 t] w fun r w' =>
      ∃ ea ecap, r = .returned (.tuple #[(failD d c t).val (.slice a n cap) (.slice sa m scap), .slice ea 1 ecap]) ∧ w'.ownsRow w.heap.size 67 7 (.slice ea 1 ecap) 1 (failE c t).cs ∧ Below w.heap.size w w' := by
  go_enter Try.func120, Try.ntmps120
  go_wp2_with fail
  refine (specFailE_any c t _).mono ?_
  rintro r w1 ⟨rfl, hb1⟩
  have hz1 := hb1.size
  simp only [World.size_alloc] at hz1
  have hA_ : w1.heap[w.heap.size]? = some (.cells #[.slice a n cap, .int .i64 d.p.root, .int .i64 d.p.deep, .int .i64 d.p.most, .int .i64 (9), .slice sa m scap, .int .u64 d.bits, .int .i64 d.have_, .int .i64 d.start, .int .i64 d.at_, .int .i64 d.field.number, .int .i64 d.field.kind, .bool d.field.rep, .bool d.field.packed, .int .i64 d.field.msg, .int .i64 d.wire, .int .i64 d.want, .int .i64 d.utf.want, .int .i64 d.utf.low, .int .i64 d.utf.high, .int .i64 d.end_.kind, .int .i64 d.end_.field, .int .u64 d.end_.bits, .int .i64 d.end_.len, .string d.end_.text, .int .i64 d.end_.code, .int .i64 d.end_.at_] 69 (0, 0)) := (hb1.block _ (by simp; omega)).trans (hset_alloc (hset_new rfl))
  have hR_ : w1.heap[w.heap.size + 1]? = some (.cells #[.slice none 0 0, .int .i64 0, .int .i64 0, .int .i64 0, .int .i64 0, .slice none 0 0, .int .u64 0, .int .i64 0, .int .i64 0, .int .i64 0, .int .i64 0, .int .i64 0, .bool false, .bool false, .int .i64 0, .int .i64 0, .int .i64 0, .int .i64 0, .int .i64 0, .int .i64 0, .int .i64 0, .int .i64 0, .int .u64 0, .int .i64 0, .string ⟨#[]⟩, .int .i64 0, .int .i64 0] 69 (0, 0)) := (hb1.block _ (by simp)).trans (hset_new (by simp))
  have hb1b : Below w.heap.size w w1 := by ((repeat (first | (with_reducible exact Below.refl _ _) | (with_reducible assumption) | (with_reducible refine Below.alloc ?_ ?_ _) | (with_reducible refine Below.setCell ?_ ?_ _) | (with_reducible refine Below.drew ?_) | (with_reducible refine below_setRow ?_ ?_ _) | (refine Below.trans ?_ (Below.mono (by assumption) ?_)))); all_goals (first | omega | (simp; done) | (simp; omega)))
  have kA := box_cells hA_; have fA := box_frozen hA_; have hBA := box_lt hA_; have HA := Lib.hid hA_; clear hA_
  have HR := Lib.hid hR_; clear hR_ hb1
  simp only [failE]
  go_wp2_with fail
  generalize hw2 : World.setCell _ (⟨w.heap.size, 16, none⟩ : Addr) (.int .i64 0) = w2
  have hA_ : w2.heap[w.heap.size]? = some (.cells #[.slice a n cap, .int .i64 d.p.root, .int .i64 d.p.deep, .int .i64 d.p.most, .int .i64 (9), .slice sa m scap, .int .u64 (0), .int .i64 (0), .int .i64 d.start, .int .i64 d.at_, .int .i64 d.field.number, .int .i64 d.field.kind, .bool d.field.rep, .bool d.field.packed, .int .i64 d.field.msg, .int .i64 d.wire, .int .i64 (0), .int .i64 d.utf.want, .int .i64 d.utf.low, .int .i64 d.utf.high, .int .i64 (10), .int .i64 (0), .int .u64 (0), .int .i64 (0), .string (⟨#[]⟩), .int .i64 (c), .int .i64 (t)] 69 (0, 0)) := by rw [← hw2]; apply hset_eq; (repeat (first | (with_reducible exact HA.out) | (with_reducible apply hset_set))); simp only [List.setIfInBounds_toArray, List.set_cons_zero, List.set_cons_succ]
  have hR_ : w2.heap[w.heap.size + 1]? = some (.cells #[.slice none 0 0, .int .i64 0, .int .i64 0, .int .i64 0, .int .i64 0, .slice none 0 0, .int .u64 0, .int .i64 0, .int .i64 0, .int .i64 0, .int .i64 0, .int .i64 0, .bool false, .bool false, .int .i64 0, .int .i64 0, .int .i64 0, .int .i64 0, .int .i64 0, .int .i64 0, .int .i64 0, .int .i64 0, .int .u64 0, .int .i64 0, .string ⟨#[]⟩, .int .i64 0, .int .i64 0] 69 (0, 0)) := by rw [← hw2]; (repeat (first | (with_reducible exact HR.out) | (with_reducible refine hset_other ?_ (by simp))))
  have hb2 : Below w.heap.size w w2 := by rw [← hw2]; ((repeat (first | (with_reducible exact Below.refl _ _) | (with_reducible assumption) | (with_reducible refine Below.alloc ?_ ?_ _) | (with_reducible refine Below.setCell ?_ ?_ _) | (with_reducible refine Below.drew ?_) | (with_reducible refine below_setRow ?_ ?_ _) | (refine Below.trans ?_ (Below.mono (by assumption) ?_)))); all_goals (first | omega | (simp; done) | (simp; omega)))
  have hz2 : w2.heap.size = w1.heap.size := by rw [← hw2]; simp
  clear hw2 kA fA hBA HA HR
  have kA := box_cells hA_
  have HR := Lib.hid hR_; clear hR_ hA_
  refine wp_region_till (fun w' => ∀ i : Nat, w'.cell? ⟨w.heap.size, i, none⟩ = (#[.slice a n cap, .int .i64 d.p.root, .int .i64 d.p.deep, .int .i64 d.p.most, .int .i64 (9), .slice sa m scap, .int .u64 (0), .int .i64 (0), .int .i64 d.start, .int .i64 d.at_, .int .i64 d.field.number, .int .i64 d.field.kind, .bool d.field.rep, .bool d.field.packed, .int .i64 d.field.msg, .int .i64 d.wire, .int .i64 (0), .int .i64 d.utf.want, .int .i64 d.utf.low, .int .i64 d.utf.high, .int .i64 (10), .int .i64 (0), .int .u64 (0), .int .i64 (0), .string (⟨#[]⟩), .int .i64 (c), .int .i64 (t)] : Array Value)[i]?) (fun _ => false) (by kernel_rfl) ?_
  have hS : (fun w' : World => ∀ i : Nat, w'.cell? ⟨w.heap.size, i, none⟩ = (#[.slice a n cap, .int .i64 d.p.root, .int .i64 d.p.deep, .int .i64 d.p.most, .int .i64 (9), .slice sa m scap, .int .u64 (0), .int .i64 (0), .int .i64 d.start, .int .i64 d.at_, .int .i64 d.field.number, .int .i64 d.field.kind, .bool d.field.rep, .bool d.field.packed, .int .i64 d.field.msg, .int .i64 d.wire, .int .i64 (0), .int .i64 d.utf.want, .int .i64 d.utf.low, .int .i64 d.utf.high, .int .i64 (10), .int .i64 (0), .int .u64 (0), .int .i64 (0), .string (⟨#[]⟩), .int .i64 (c), .int .i64 (t)] : Array Value)[i]?) w2.drew := kA
  refine' wpTill_take (i := 0) (oi := _) (v := _) rfl (by kernel_rfl) (by kernel_rfl) (by kernel_rfl) (by kernel_rfl) (fun _ _ _ h => h) (yieldsIf_load_mid (by rfl) _ _ rfl _ _ rfl [.slice a n cap, .int .i64 d.p.root, .int .i64 d.p.deep, .int .i64 d.p.most, .int .i64 (9), .slice sa m scap, .int .u64 (0), .int .i64 (0), .int .i64 d.start, .int .i64 d.at_, .int .i64 d.field.number, .int .i64 d.field.kind, .bool d.field.rep, .bool d.field.packed, .int .i64 d.field.msg, .int .i64 d.wire, .int .i64 (0), .int .i64 d.utf.want, .int .i64 d.utf.low, .int .i64 d.utf.high, .int .i64 (10), .int .i64 (0), .int .u64 (0), .int .i64 (0), .string (⟨#[]⟩), .int .i64 (c), .int .i64 (t)] _ (fun wq hq => range_of_cells hq) Try.underlying69 rfl size_Dec) hS ?_
  try simp only [List.getElem_toArray, List.getElem_cons_succ, List.getElem_cons_zero, Act.put, List.setIfInBounds_toArray, List.set_cons_zero, List.set_cons_succ]
  refine wpTill_take (i := 1) (v := ?v1_1) rfl (by kernel_rfl) (by kernel_rfl) (by kernel_rfl) (by kernel_rfl) (fun _ _ _ h => h) (Or.inl ⟨by rfl, ?y1_1⟩) hS ?r1_1
  case y1_1 => (intro wq hq; (try simp only [cells_cons, cells_nil, and_true] at hq); first | (go_simp; done) | (go_simp; with_reducible rfl) | (obtain ⟨hq1, hq2⟩ := hq; go_simp; with_reducible rfl))
  try simp only [List.getElem_toArray, List.getElem_cons_succ, List.getElem_cons_zero, Act.put, List.setIfInBounds_toArray, List.set_cons_zero, List.set_cons_succ]
  refine wpTill_take (i := 2) (v := ?v2_2) rfl (by kernel_rfl) (by kernel_rfl) (by kernel_rfl) (by kernel_rfl) (fun _ _ _ h => h) (Or.inl ⟨by rfl, ?y2_2⟩) hS ?r2_2
  case y2_2 => (intro wq hq; (try simp only [cells_cons, cells_nil, and_true] at hq); first | (go_simp; done) | (go_simp; with_reducible rfl) | (obtain ⟨hq1, hq2⟩ := hq; go_simp; with_reducible rfl))
  try simp only [List.getElem_toArray, List.getElem_cons_succ, List.getElem_cons_zero, Act.put, List.setIfInBounds_toArray, List.set_cons_zero, List.set_cons_succ]
  have fin : ∀ W : World, W.heap[w.heap.size + 1]? = some (.cells #[.slice a n cap, .int .i64 d.p.root, .int .i64 d.p.deep, .int .i64 d.p.most, .int .i64 (9), .slice sa m scap, .int .u64 (0), .int .i64 (0), .int .i64 d.start, .int .i64 d.at_, .int .i64 d.field.number, .int .i64 d.field.kind, .bool d.field.rep, .bool d.field.packed, .int .i64 d.field.msg, .int .i64 d.wire, .int .i64 (0), .int .i64 d.utf.want, .int .i64 d.utf.low, .int .i64 d.utf.high, .int .i64 (10), .int .i64 (0), .int .u64 (0), .int .i64 (0), .string (⟨#[]⟩), .int .i64 (c), .int .i64 (t)] 69 (0, 0)) → W.ownsRow w2.heap.size 67 7 (.slice (some ⟨w2.heap.size, 0, none⟩) 1 1) 1 (failE c t).cs → Below w.heap.size w W → ∀ (tm : Array Value), tm.getD 6 undef = .pointer (some ⟨w.heap.size + 1, 0, none⟩) → tm.getD 7 undef = .slice (some ⟨w2.heap.size, 0, none⟩) 1 1 →
      bodyPost Try.prog Try.f120 (fun r w' => ∃ ea ecap, r = .returned (.tuple #[(failD d c t).val (.slice a n cap) (.slice sa m scap), .slice ea 1 ecap]) ∧ w'.ownsRow w.heap.size 67 7 (.slice ea 1 ecap) 1 (failE c t).cs ∧ Below w.heap.size w w') .ret ⟨tm, []⟩ W := by
    intro W h1 h2 h3 tm t1 t2
    exact bodyPost_ret (results_cell_tmp Try.results120 t1 t2 (run_loadVar_mid W (w.heap.size + 1) 0 69 [.slice a n cap, .int .i64 d.p.root, .int .i64 d.p.deep, .int .i64 d.p.most, .int .i64 (9), .slice sa m scap, .int .u64 (0), .int .i64 (0), .int .i64 d.start, .int .i64 d.at_, .int .i64 d.field.number, .int .i64 d.field.kind, .bool d.field.rep, .bool d.field.packed, .int .i64 d.field.msg, .int .i64 d.wire, .int .i64 (0), .int .i64 d.utf.want, .int .i64 d.utf.low, .int .i64 d.utf.high, .int .i64 (10), .int .i64 (0), .int .u64 (0), .int .i64 (0), .string (⟨#[]⟩), .int .i64 (c), .int .i64 (t)] _ (range_of_box h1) Try.underlying69 rfl size_Dec)) rfl ⟨_, _, rfl, owns_le h2 (by omega), h3⟩
  refine wpTill_two (i := 3) (j := 4) (by kernel_rfl) rfl rfl (fun K hK => ?_) (fun K hK => ?_)
  · go_simp
    have hS1 : (fun w' : World => ∀ i : Nat, w'.cell? ⟨w.heap.size, i, none⟩ = (#[.slice a n cap, .int .i64 d.p.root, .int .i64 d.p.deep, .int .i64 d.p.most, .int .i64 (9), .slice sa m scap, .int .u64 (0), .int .i64 (0), .int .i64 d.start, .int .i64 d.at_, .int .i64 d.field.number, .int .i64 d.field.kind, .bool d.field.rep, .bool d.field.packed, .int .i64 d.field.msg, .int .i64 d.wire, .int .i64 (0), .int .i64 d.utf.want, .int .i64 d.utf.low, .int .i64 d.utf.high, .int .i64 (10), .int .i64 (0), .int .u64 (0), .int .i64 (0), .string (⟨#[]⟩), .int .i64 (c), .int .i64 (t)] : Array Value)[i]?) (w2.alloc (.cells #[.int .i64 10, .int .i64 0, .int .u64 0, .int .i64 0, .string ⟨#[]⟩, .int .i64 c, .int .i64 t] 67)).drew := fun i => (World.cell?_alloc_lt _ _ _ (by simp; omega)).trans (hS i)
    refine hK.out _ _ (fun _ => hS1) ?_
    clear hK K
    try simp only [Act.put, List.setIfInBounds_toArray, List.set_cons_zero, List.set_cons_succ]
    refine wpTill_op (i := 4) (by kernel_rfl) rfl (fun K hK => ?_)
    refine step_store_row rfl 69 _ _ rfl (w.heap.size + 1) #[.slice a n cap, .int .i64 d.p.root, .int .i64 d.p.deep, .int .i64 d.p.most, .int .i64 (9), .slice sa m scap, .int .u64 (0), .int .i64 (0), .int .i64 d.start, .int .i64 d.at_, .int .i64 d.field.number, .int .i64 d.field.kind, .bool d.field.rep, .bool d.field.packed, .int .i64 d.field.msg, .int .i64 d.wire, .int .i64 (0), .int .i64 d.utf.want, .int .i64 d.utf.low, .int .i64 d.utf.high, .int .i64 (10), .int .i64 (0), .int .u64 (0), .int .i64 (0), .string (⟨#[]⟩), .int .i64 (c), .int .i64 (t)] rfl rfl 69 #[.slice none 0 0, .int .i64 0, .int .i64 0, .int .i64 0, .int .i64 0, .slice none 0 0, .int .u64 0, .int .i64 0, .int .i64 0, .int .i64 0, .int .i64 0, .int .i64 0, .bool false, .bool false, .int .i64 0, .int .i64 0, .int .i64 0, .int .i64 0, .int .i64 0, .int .i64 0, .int .i64 0, .int .i64 0, .int .u64 0, .int .i64 0, .string ⟨#[]⟩, .int .i64 0, .int .i64 0] (hset_alloc HR.out) size_Dec rfl (by simp [Value.oneCell']) ?_
    refine hK.out _ _ (fun _ => fun i => (World.cell?_of_block (a := ⟨w.heap.size, i, none⟩) (setRow_other _ _ _ _ (by simp))).trans (hS1 i)) ?_
    clear hK K
    try simp only [Act.put, List.setIfInBounds_toArray, List.set_cons_zero, List.set_cons_succ]
    refine wpTill_op (i := 5) (by kernel_rfl) rfl (fun K hK => ?_)
    go_simp
    refine hK.out _ _ (fun _ => fun i => (World.cell?_of_block (a := ⟨w.heap.size, i, none⟩) (setRow_other _ _ _ _ (by simp))).trans (hS1 i)) ?_
    clear hK K
    refine wpTill_done (by kernel_rfl) ?_ _
    go_wp2
    refine fin _ ?_ ?_ ?_ _ rfl (by rw [hz2]; rfl)
    · exact hset_row (cs := #[.slice none 0 0, .int .i64 0, .int .i64 0, .int .i64 0, .int .i64 0, .slice none 0 0, .int .u64 0, .int .i64 0, .int .i64 0, .int .i64 0, .int .i64 0, .int .i64 0, .bool false, .bool false, .int .i64 0, .int .i64 0, .int .i64 0, .int .i64 0, .int .i64 0, .int .i64 0, .int .i64 0, .int .i64 0, .int .u64 0, .int .i64 0, .string ⟨#[]⟩, .int .i64 0, .int .i64 0]) (hset_alloc HR.out)
    · rw [hz2]; exact owns_setRow (hz2 ▸ World.ownsRow.of_box w2 (failE c t) 67) (by omega) _
    · ((repeat (first | (with_reducible exact Below.refl _ _) | (with_reducible assumption) | (with_reducible refine Below.alloc ?_ ?_ _) | (with_reducible refine Below.setCell ?_ ?_ _) | (with_reducible refine Below.drew ?_) | (with_reducible refine below_setRow ?_ ?_ _) | (refine Below.trans ?_ (Below.mono (by assumption) ?_)))); all_goals (first | omega | (simp; done) | (simp; omega)))
  · refine step_store_row rfl 69 _ _ rfl (w.heap.size + 1) #[.slice a n cap, .int .i64 d.p.root, .int .i64 d.p.deep, .int .i64 d.p.most, .int .i64 (9), .slice sa m scap, .int .u64 (0), .int .i64 (0), .int .i64 d.start, .int .i64 d.at_, .int .i64 d.field.number, .int .i64 d.field.kind, .bool d.field.rep, .bool d.field.packed, .int .i64 d.field.msg, .int .i64 d.wire, .int .i64 (0), .int .i64 d.utf.want, .int .i64 d.utf.low, .int .i64 d.utf.high, .int .i64 (10), .int .i64 (0), .int .u64 (0), .int .i64 (0), .string (⟨#[]⟩), .int .i64 (c), .int .i64 (t)] rfl rfl 69 #[.slice none 0 0, .int .i64 0, .int .i64 0, .int .i64 0, .int .i64 0, .slice none 0 0, .int .u64 0, .int .i64 0, .int .i64 0, .int .i64 0, .int .i64 0, .int .i64 0, .bool false, .bool false, .int .i64 0, .int .i64 0, .int .i64 0, .int .i64 0, .int .i64 0, .int .i64 0, .int .i64 0, .int .i64 0, .int .u64 0, .int .i64 0, .string ⟨#[]⟩, .int .i64 0, .int .i64 0] HR.out size_Dec rfl (by simp [Value.oneCell']) ?_
    have hS1 : (fun w' : World => ∀ i : Nat, w'.cell? ⟨w.heap.size, i, none⟩ = (#[.slice a n cap, .int .i64 d.p.root, .int .i64 d.p.deep, .int .i64 d.p.most, .int .i64 (9), .slice sa m scap, .int .u64 (0), .int .i64 (0), .int .i64 d.start, .int .i64 d.at_, .int .i64 d.field.number, .int .i64 d.field.kind, .bool d.field.rep, .bool d.field.packed, .int .i64 d.field.msg, .int .i64 d.wire, .int .i64 (0), .int .i64 d.utf.want, .int .i64 d.utf.low, .int .i64 d.utf.high, .int .i64 (10), .int .i64 (0), .int .u64 (0), .int .i64 (0), .string (⟨#[]⟩), .int .i64 (c), .int .i64 (t)] : Array Value)[i]?) (w2.drew.setRow (w.heap.size + 1) #[.slice a n cap, .int .i64 d.p.root, .int .i64 d.p.deep, .int .i64 d.p.most, .int .i64 (9), .slice sa m scap, .int .u64 (0), .int .i64 (0), .int .i64 d.start, .int .i64 d.at_, .int .i64 d.field.number, .int .i64 d.field.kind, .bool d.field.rep, .bool d.field.packed, .int .i64 d.field.msg, .int .i64 d.wire, .int .i64 (0), .int .i64 d.utf.want, .int .i64 d.utf.low, .int .i64 d.utf.high, .int .i64 (10), .int .i64 (0), .int .u64 (0), .int .i64 (0), .string (⟨#[]⟩), .int .i64 (c), .int .i64 (t)]) := fun i => (World.cell?_of_block (a := ⟨w.heap.size, i, none⟩) (setRow_other _ _ _ _ (by simp))).trans (hS i)
    refine hK.out _ _ (fun _ => hS1) ?_
    clear hK K
    try simp only [Act.put, List.setIfInBounds_toArray, List.set_cons_zero, List.set_cons_succ]
    refine wpTill_op (i := 3) (by kernel_rfl) rfl (fun K hK => ?_)
    go_simp
    have hS2 : (fun w' : World => ∀ i : Nat, w'.cell? ⟨w.heap.size, i, none⟩ = (#[.slice a n cap, .int .i64 d.p.root, .int .i64 d.p.deep, .int .i64 d.p.most, .int .i64 (9), .slice sa m scap, .int .u64 (0), .int .i64 (0), .int .i64 d.start, .int .i64 d.at_, .int .i64 d.field.number, .int .i64 d.field.kind, .bool d.field.rep, .bool d.field.packed, .int .i64 d.field.msg, .int .i64 d.wire, .int .i64 (0), .int .i64 d.utf.want, .int .i64 d.utf.low, .int .i64 d.utf.high, .int .i64 (10), .int .i64 (0), .int .u64 (0), .int .i64 (0), .string (⟨#[]⟩), .int .i64 (c), .int .i64 (t)] : Array Value)[i]?) ((w2.drew.setRow (w.heap.size + 1) #[.slice a n cap, .int .i64 d.p.root, .int .i64 d.p.deep, .int .i64 d.p.most, .int .i64 (9), .slice sa m scap, .int .u64 (0), .int .i64 (0), .int .i64 d.start, .int .i64 d.at_, .int .i64 d.field.number, .int .i64 d.field.kind, .bool d.field.rep, .bool d.field.packed, .int .i64 d.field.msg, .int .i64 d.wire, .int .i64 (0), .int .i64 d.utf.want, .int .i64 d.utf.low, .int .i64 d.utf.high, .int .i64 (10), .int .i64 (0), .int .u64 (0), .int .i64 (0), .string (⟨#[]⟩), .int .i64 (c), .int .i64 (t)]).alloc (.cells #[.int .i64 10, .int .i64 0, .int .u64 0, .int .i64 0, .string ⟨#[]⟩, .int .i64 c, .int .i64 t] 67)) := fun i => (World.cell?_alloc_lt _ _ _ (by simp; omega)).trans (hS1 i)
    refine hK.out _ _ (fun _ => hS2) ?_
    clear hK K
    try simp only [Act.put, List.setIfInBounds_toArray, List.set_cons_zero, List.set_cons_succ]
    refine wpTill_op (i := 5) (by kernel_rfl) rfl (fun K hK => ?_)
    go_simp
    refine hK.out _ _ (fun _ => hS2) ?_
    clear hK K
    refine wpTill_done (by kernel_rfl) ?_ _
    go_wp2
    refine fin _ ?_ ?_ ?_ _ rfl (by rw [hz2]; rfl)
    · exact hset_alloc (hset_row (cs := #[.slice none 0 0, .int .i64 0, .int .i64 0, .int .i64 0, .int .i64 0, .slice none 0 0, .int .u64 0, .int .i64 0, .int .i64 0, .int .i64 0, .int .i64 0, .int .i64 0, .bool false, .bool false, .int .i64 0, .int .i64 0, .int .i64 0, .int .i64 0, .int .i64 0, .int .i64 0, .int .i64 0, .int .i64 0, .int .u64 0, .int .i64 0, .string ⟨#[]⟩, .int .i64 0, .int .i64 0]) HR.out)
    · have hq := World.ownsRow.of_box (w2.drew.setRow (w.heap.size + 1) #[.slice a n cap, .int .i64 d.p.root, .int .i64 d.p.deep, .int .i64 d.p.most, .int .i64 (9), .slice sa m scap, .int .u64 (0), .int .i64 (0), .int .i64 d.start, .int .i64 d.at_, .int .i64 d.field.number, .int .i64 d.field.kind, .bool d.field.rep, .bool d.field.packed, .int .i64 d.field.msg, .int .i64 d.wire, .int .i64 (0), .int .i64 d.utf.want, .int .i64 d.utf.low, .int .i64 d.utf.high, .int .i64 (10), .int .i64 (0), .int .u64 (0), .int .i64 (0), .string (⟨#[]⟩), .int .i64 (c), .int .i64 (t)]) (failE c t) 67
      simp only [size_setRow] at hq
      exact hq
    · ((repeat (first | (with_reducible exact Below.refl _ _) | (with_reducible assumption) | (with_reducible refine Below.alloc ?_ ?_ _) | (with_reducible refine Below.setCell ?_ ?_ _) | (with_reducible refine Below.drew ?_) | (with_reducible refine below_setRow ?_ ?_ _) | (refine Below.trans ?_ (Below.mono (by assumption) ?_)))); all_goals (first | omega | (simp; done) | (simp; omega)))
/-- The end of a function that hands back a decoder out of its result cell, and events. -/
theorem finDE {F : Func} {p q : Tmp} (hF : F.results = #[.cell p 69, .tmp q]) {tm : Array Value} {R : Nat} {W w : World} {e : Dc} {xs : List Shp} {ms : List Lvl} {es : List Ev} {a sa ea : Option Addr} {cap scap ecap base : Nat} {rs : List ShR}
    (t1 : tm.getD p undef = .pointer (some ⟨R, 0, none⟩)) (t2 : tm.getD q undef = .slice ea es.length ecap) (h1 : W.heap[R]? = some (.cells #[.slice a xs.length cap, .int .i64 e.p.root, .int .i64 e.p.deep, .int .i64 e.p.most, .int .i64 e.mode, .slice sa ms.length scap, .int .u64 e.bits, .int .i64 e.have_, .int .i64 e.start, .int .i64 e.at_, .int .i64 e.field.number, .int .i64 e.field.kind, .bool e.field.rep, .bool e.field.packed, .int .i64 e.field.msg, .int .i64 e.wire, .int .i64 e.want, .int .i64 e.utf.want, .int .i64 e.utf.low, .int .i64 e.utf.high, .int .i64 e.end_.kind, .int .i64 e.end_.field, .int .u64 e.end_.bits, .int .i64 e.end_.len, .string e.end_.text, .int .i64 e.end_.code, .int .i64 e.end_.at_] 69 (0, 0)))
    (h2 : OwnShs W base 38 40 (.slice a xs.length cap) xs.length rs xs) (h3 : W.ownsRow base 131 2 (.slice sa ms.length scap) ms.length (ms.flatMap Lvl.cs)) (h4 : W.ownsRow base 67 7 (.slice ea es.length ecap) es.length (es.flatMap Ev.cs)) (hb : Below w.heap.size w W) (hle : w.heap.size ≤ base) :
    bodyPost Try.prog F (FreshDE w 38 40 131 67 xs (e, ms, es)) .ret ⟨tm, []⟩ W :=
  bodyPost_ret (results_cell_tmp hF t1 t2 (run_loadVar_mid W R 0 69 [.slice a xs.length cap, .int .i64 e.p.root, .int .i64 e.p.deep, .int .i64 e.p.most, .int .i64 e.mode, .slice sa ms.length scap, .int .u64 e.bits, .int .i64 e.have_, .int .i64 e.start, .int .i64 e.at_, .int .i64 e.field.number, .int .i64 e.field.kind, .bool e.field.rep, .bool e.field.packed, .int .i64 e.field.msg, .int .i64 e.wire, .int .i64 e.want, .int .i64 e.utf.want, .int .i64 e.utf.low, .int .i64 e.utf.high, .int .i64 e.end_.kind, .int .i64 e.end_.field, .int .u64 e.end_.bits, .int .i64 e.end_.len, .string e.end_.text, .int .i64 e.end_.code, .int .i64 e.end_.at_] _ (range_of_box h1) Try.underlying69 rfl size_Dec)) rfl ⟨a, cap, rs, sa, scap, ea, ecap, rfl, h2.le hle, owns_le h3 hle, owns_le h4 hle, hb⟩
set_option maxRecDepth 100000 in
set_option maxHeartbeats 2000000 in
theorem l15Ok_any (d : Dc) (a : Option Addr) (cap n : Nat) (xs : List Shp) (sa : Option Addr) (scap m : Nat) (ls : List Lvl) (w : World) (h : Shs w a xs) (h' : Lvls w sa ls) (hx : xs.length = n) (hl : ls.length = m) (hn : n ≤ 1048576) (hm : fldSum xs ≤ 1048576) (hm' : m ≤ 1048576) :
    Calls Try.prog 98 #[d.val (.slice a n cap) (.slice sa m scap)] w fun r w' => r = .returned (.bool (lvOk d xs ls)) ∧ Below w.heap.size w w' := by
  have HL := Lib.hid hl; clear hl
  have HX := Lib.hid hx; clear hx
  have HSs := Lib.hid h; clear h
  have HSl := Lib.hid h'; clear h'
  obtain ⟨R, hR⟩ : ∃ R, lvOk d xs ls = R := ⟨_, rfl⟩
  rw [hR]
  have HR := Lib.hid hR; clear hR
  go_enter Try.func98, Try.ntmps98
  go_wp2_with fail
  refine (specPlanOk_any _ _ _ d.p xs _ (HSs.out.keep (by ((repeat (first | (with_reducible exact Below.refl _ _) | (with_reducible assumption) | (with_reducible refine Below.alloc ?_ ?_ _) | (with_reducible refine Below.setCell ?_ ?_ _) | (with_reducible refine Below.drew ?_) | (with_reducible refine below_setRow ?_ ?_ _) | (refine Below.trans ?_ (Below.mono (by assumption) ?_)))); all_goals (first | omega | (simp; done) | (simp; omega))))) HX.out hn hm).mono ?_
  rintro r w1 ⟨rfl, hb1⟩
  have hz1 := hb1.size
  try simp only [World.size_alloc, World.size_setCell, World.size_drew] at hz1
  have hb1b : Below w.heap.size w w1 := by ((repeat (first | (with_reducible exact Below.refl _ _) | (with_reducible assumption) | (with_reducible refine Below.alloc ?_ ?_ _) | (with_reducible refine Below.setCell ?_ ?_ _) | (with_reducible refine Below.drew ?_) | (with_reducible refine below_setRow ?_ ?_ _) | (refine Below.trans ?_ (Below.mono (by assumption) ?_)))); all_goals (first | omega | (simp; done) | (simp; omega)))
  have kA := box_new0 hb1
  have hBA := box_lt0 hb1
  try simp only [World.size_alloc, World.size_setCell, World.size_drew] at kA
  try simp only [World.size_alloc, World.size_setCell, World.size_drew] at hBA
  clear hb1; have hb1 := hb1b; clear hb1b
  cases h0 : planOk d.p xs
  · have HB := Lib.hid (show false = R by rw [← HR.out, lvOk, h0]; rfl)
    go_wp2
    go_ret
    exact ⟨ret_bool HB.out, by ((repeat (first | (with_reducible exact Below.refl _ _) | (with_reducible assumption) | (with_reducible refine Below.alloc ?_ ?_ _) | (with_reducible refine Below.setCell ?_ ?_ _) | (with_reducible refine Below.drew ?_) | (with_reducible refine below_setRow ?_ ?_ _) | (refine Below.trans ?_ (Below.mono (by assumption) ?_)))); all_goals (first | omega | (simp; done) | (simp; omega)))⟩
  · by_cases hdp : (m : Int) ≤ d.p.deep
    · go_wp2_with fail
      go_loopw [3] (fun i wr => ∃ k : Nat, k ≤ m ∧ i = .int .i64 k ∧ Hid ((ls.take k).all (lvlOk n) = true) ∧ Below w.heap.size w wr ∧ w.heap.size < wr.heap.size ∧ (∀ i : Nat, wr.cell? ⟨w.heap.size, i, none⟩ = (#[.slice a n cap, .int .i64 d.p.root, .int .i64 d.p.deep, .int .i64 d.p.most, .int .i64 d.mode, .slice sa m scap, .int .u64 d.bits, .int .i64 d.have_, .int .i64 d.start, .int .i64 d.at_, .int .i64 d.field.number, .int .i64 d.field.kind, .bool d.field.rep, .bool d.field.packed, .int .i64 d.field.msg, .int .i64 d.wire, .int .i64 d.want, .int .i64 d.utf.want, .int .i64 d.utf.low, .int .i64 d.utf.high, .int .i64 d.end_.kind, .int .i64 d.end_.field, .int .u64 d.end_.bits, .int .i64 d.end_.len, .string d.end_.text, .int .i64 d.end_.code, .int .i64 d.end_.at_] : Array Value)[i]?)) (fun i _ => m - (intOf i).toNat)
      case atStart => exact ⟨0, Nat.zero_le _, rfl, Lib.hid (by simp), by ((repeat (first | (with_reducible exact Below.refl _ _) | (with_reducible assumption) | (with_reducible refine Below.alloc ?_ ?_ _) | (with_reducible refine Below.setCell ?_ ?_ _) | (with_reducible refine Below.drew ?_) | (with_reducible refine below_setRow ?_ ?_ _) | (refine Below.trans ?_ (Below.mono (by assumption) ?_)))); all_goals (first | omega | (simp; done) | (simp; omega))), hBA, kA⟩
      case round =>
        obtain ⟨k, hk, rfl, HK, hb, hBA2, kA2⟩ := hrel
        clear kA hBA; have kA := kA2; have hBA := hBA2; clear kA2 hBA2
        have hz := hb.size
        by_cases hlt : k < m
        · obtain ⟨e, he, _⟩ := at_lt (xs := ls) (k := k) (by rw [HL.out]; exact hlt)
          have HE := Lib.hid he
          obtain ⟨b, off, rfl, hlb, c0, c1⟩ := Lvls.at (HSl.out.below hb (Nat.le_refl _)) he
          clear he
          cases h1 : inB e.msg 0 (n - 1)
          · have HB := Lib.hid (show false = R by rw [← HR.out, lvOk, HX.out, all_bad HE.out (by simp [lvlOk, h1])]; simp)
            go_wp2_with fail
            (refine wp_region_ext (by kernel_rfl) (by kernel_rfl) ?_; (repeat (go_big_quiet_step (first | (go_at_call 58; refine Calls.ext_of_same (l1In_any _ _ _ _))))); refine wpQuiet_nil ?_; intro w2 hb2; obtain ⟨hc2, hf2⟩ := bcell hb2; have hz2 := hb2.size; (try simp only [World.size_alloc, World.size_setCell, World.size_drew] at hz2))
            have kA1 := box_next (hb2.mono (Nat.le_refl _)) hBA kA
            go_wp2
            go_ret
            exact ⟨ret_bool HB.out, by ((repeat (first | (with_reducible exact Below.refl _ _) | (with_reducible assumption) | (with_reducible refine Below.alloc ?_ ?_ _) | (with_reducible refine Below.setCell ?_ ?_ _) | (with_reducible refine Below.drew ?_) | (with_reducible refine below_setRow ?_ ?_ _) | (refine Below.trans ?_ (Below.mono (by assumption) ?_)))); all_goals (first | omega | (simp; done) | (simp; omega)))⟩
          · cases h2 : inB e.left 0 2000
            · have HB := Lib.hid (show false = R by rw [← HR.out, lvOk, HX.out, all_bad HE.out (by simp [lvlOk, h2])]; simp)
              go_wp2_with fail
              (refine wp_region_ext (by kernel_rfl) (by kernel_rfl) ?_; (repeat (go_big_quiet_step (first | (go_at_call 58; refine Calls.ext_of_same (l1In_any _ _ _ _))))); refine wpQuiet_nil ?_; intro w2 hb2; obtain ⟨hc2, hf2⟩ := bcell hb2; have hz2 := hb2.size; (try simp only [World.size_alloc, World.size_setCell, World.size_drew] at hz2))
              have kA1 := box_next (hb2.mono (Nat.le_refl _)) hBA kA
              go_wp2
              go_ret
              exact ⟨ret_bool HB.out, by ((repeat (first | (with_reducible exact Below.refl _ _) | (with_reducible assumption) | (with_reducible refine Below.alloc ?_ ?_ _) | (with_reducible refine Below.setCell ?_ ?_ _) | (with_reducible refine Below.drew ?_) | (with_reducible refine below_setRow ?_ ?_ _) | (refine Below.trans ?_ (Below.mono (by assumption) ?_)))); all_goals (first | omega | (simp; done) | (simp; omega)))⟩
            · have HK2 := Lib.hid (show (ls.take (k + 1)).all (lvlOk n) = true by rw [all_snoc HE.out, HK.out]; simp [lvlOk, h1, h2])
              go_wp2_with fail
              (refine wp_region_ext (by kernel_rfl) (by kernel_rfl) ?_; (repeat (go_big_quiet_step (first | (go_at_call 58; refine Calls.ext_of_same (l1In_any _ _ _ _))))); refine wpQuiet_nil ?_; intro w2 hb2; obtain ⟨hc2, hf2⟩ := bcell hb2; have hz2 := hb2.size; (try simp only [World.size_alloc, World.size_setCell, World.size_drew] at hz2))
              have kA1 := box_next (hb2.mono (Nat.le_refl _)) hBA kA
              go_wp2
              go_roundw
              case rel => exact ⟨k + 1, by omega, by go_num, HK2, by ((repeat (first | (with_reducible exact Below.refl _ _) | (with_reducible assumption) | (with_reducible refine Below.alloc ?_ ?_ _) | (with_reducible refine Below.setCell ?_ ?_ _) | (with_reducible refine Below.drew ?_) | (with_reducible refine below_setRow ?_ ?_ _) | (refine Below.trans ?_ (Below.mono (by assumption) ?_)))); all_goals (first | omega | (simp; done) | (simp; omega))), by omega, kA1⟩
              case measure => simp [intOf]; omega
        · have hall : ls.all (lvlOk n) = true := by have := HK.out; rw [List.take_of_length_le (by rw [HL.out]; omega)] at this; exact this
          have HB := Lib.hid (show true = R by rw [← HR.out, lvOk, HX.out, hall, h0, HL.out]; simp [hdp])
          clear hall HR HK
          go_wp2
          go_ret
          exact ⟨ret_bool HB.out, by ((repeat (first | (with_reducible exact Below.refl _ _) | (with_reducible assumption) | (with_reducible refine Below.alloc ?_ ?_ _) | (with_reducible refine Below.setCell ?_ ?_ _) | (with_reducible refine Below.drew ?_) | (with_reducible refine below_setRow ?_ ?_ _) | (refine Below.trans ?_ (Below.mono (by assumption) ?_)))); all_goals (first | omega | (simp; done) | (simp; omega)))⟩
    · have hd : decide ((d.p.deep : Int) < (m : Int)) = true := by simp; omega
      have HB := Lib.hid (show false = R by rw [← HR.out, lvOk, HL.out]; simp [hdp])
      go_wp2
      go_ret
      exact ⟨ret_bool HB.out, by ((repeat (first | (with_reducible exact Below.refl _ _) | (with_reducible assumption) | (with_reducible refine Below.alloc ?_ ?_ _) | (with_reducible refine Below.setCell ?_ ?_ _) | (with_reducible refine Below.drew ?_) | (with_reducible refine below_setRow ?_ ?_ _) | (refine Below.trans ?_ (Below.mono (by assumption) ?_)))); all_goals (first | omega | (simp; done) | (simp; omega)))⟩
end Go.Proofs.Ytigmdaiecdoimaa

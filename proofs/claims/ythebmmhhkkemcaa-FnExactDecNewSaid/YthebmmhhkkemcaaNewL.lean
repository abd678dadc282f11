/- FnExactDecNew: for every plan the program's DecNew returns the decoder and the answer that the reference's returns, in memory of its own, and the plan is left as it was. No condition. -/
import Derived.Test.YthebmmhhkkemcaaToDec
import Derived.Test.YthebmmhhkkemcaaDELaw
import Derived.Test.YthebmmhhkkemcaaNew
namespace Go.Proofs.Ythebmmhhkkemcaa.fnExactDecNew
set_option linter.unusedSimpArgs false
set_option linter.unusedVariables false
open Go.ChangeShapes Go.WideShapes Go.ChangeAt Go.RowKit Go.BigFrame

theorem shape {f : FuncId} {args : Array Value} {w : World} {T TF : TypeId} {O : Dc × List Shp × Bool} {e : Dc} {ys : List Shp} {ok : Bool} (h : Calls Try.prog f args w (FreshN w T TF O)) (hO : (e, ys, ok) = O) :
    Calls Try.prog f args w fun r w' => ∃ a cap rs, r = .returned (.tuple #[e.val (.slice a ys.length cap) (.slice none 0 0), .bool ok]) ∧ OwnShs w' w.heap.size T TF (.slice a ys.length cap) ys.length rs ys ∧ Below w.heap.size w w' := by
  subst hO; exact h
theorem size_LPlan : (Try.prog.info? 53).map (·.size) = some 4 := by kernel_rfl
set_option maxRecDepth 100000 in
set_option maxHeartbeats 4000000 in
theorem walk (w : World) (x : PlArg) (hx : x.ok w) :
    Calls Try.prog 6 #[x.val] w fun r w' => r = .returned (.bool true) ∧ Below w.heap.size w w' := by
  obtain ⟨p, a, cap, xs⟩ := x
  obtain ⟨⟨hsl, hok, hle, hcap⟩, _, _, _⟩ := hx
  simp only at hsl hok hle hcap
  have hmx : xs.length ≤ maxLen := Nat.le_trans hle hcap
  by_cases hs : (1048576 : Int) < (xs.length : Int) + fldSum xs
  · have hs' : szS 1048576 xs = -1 := by simp only [szS]; rw [if_pos hs]
    go_enter Try.func6, Try.ntmps6
    go_wp2_with fail
    refine (szPlan_any _ _ _ p xs _ _ (by (first | assumption | exact Shs.keep (by assumption) (by ((repeat (first | (with_reducible exact Below.refl _ _) | (with_reducible assumption) | (with_reducible refine Below.alloc ?_ ?_ _) | (with_reducible refine Below.setCell ?_ ?_ _) | (with_reducible refine Below.drew ?_) | (with_reducible refine below_setRow ?_ ?_ _) | (refine Below.trans ?_ (Below.mono (by assumption) ?_)))); all_goals (first | omega | (simp; done) | (simp; omega)))) | exact Sl.keep (by assumption) (by ((repeat (first | (with_reducible exact Below.refl _ _) | (with_reducible assumption) | (with_reducible refine Below.alloc ?_ ?_ _) | (with_reducible refine Below.setCell ?_ ?_ _) | (with_reducible refine Below.drew ?_) | (with_reducible refine below_setRow ?_ ?_ _) | (refine Below.trans ?_ (Below.mono (by assumption) ?_)))); all_goals (first | omega | (simp; done) | (simp; omega)))))) hok rfl hmx (by omega) (by omega)).mono ?_
    rintro r w1 ⟨rfl, hb1⟩
    have hz1 := hb1.size
    try simp only [World.size_alloc, World.size_setCell, World.size_drew] at hz1
    have hb1b : Below w.heap.size w w1 := by ((repeat (first | (with_reducible exact Below.refl _ _) | (with_reducible assumption) | (with_reducible refine Below.alloc ?_ ?_ _) | (with_reducible refine Below.setCell ?_ ?_ _) | (with_reducible refine Below.drew ?_) | (with_reducible refine below_setRow ?_ ?_ _) | (refine Below.trans ?_ (Below.mono (by assumption) ?_)))); all_goals (first | omega | (simp; done) | (simp; omega)))
    have kA := box_new0 hb1
    have hBA := box_lt0 hb1
    try simp only [World.size_alloc, World.size_setCell, World.size_drew] at kA
    try simp only [World.size_alloc, World.size_setCell, World.size_drew] at hBA
    clear hb1; have hb1 := hb1b; clear hb1b
    go_wp2
    go_ret
    exact ⟨rfl, by ((repeat (first | (with_reducible exact Below.refl _ _) | (with_reducible assumption) | (with_reducible refine Below.alloc ?_ ?_ _) | (with_reducible refine Below.setCell ?_ ?_ _) | (with_reducible refine Below.drew ?_) | (with_reducible refine below_setRow ?_ ?_ _) | (refine Below.trans ?_ (Below.mono (by assumption) ?_)))); all_goals (first | omega | (simp; done) | (simp; omega)))⟩
  · have hn : xs.length ≤ 1048576 := by omega
    have hm : fldSum xs ≤ 1048576 := by omega
    have hs' : 0 ≤ szS 1048576 xs := by simp only [szS]; rw [if_neg hs]; omega
    obtain ⟨⟨e, ys, ok⟩, hO⟩ : ∃ O : Dc × List Shp × Bool, O = newO p xs := ⟨_, rfl⟩
    obtain ⟨hyn, hym⟩ : ys.length ≤ 1048576 ∧ fldSum ys ≤ 1048576 := by
      have h0 := newO_len p xs hn hm
      rw [← hO] at h0
      exact h0
    have HO := Lib.hid hO; clear hO
    obtain ⟨N5, hN5⟩ : ∃ N, kS 1 ys ys.length + 2 * 0 = N := ⟨_, rfl⟩
    have HN5 := Lib.hid hN5; clear hN5
    go_enter Try.func6, Try.ntmps6
    go_wp2_with fail
    refine (szPlan_any _ _ _ p xs _ _ (Shs.keep hsl (show Below w.heap.size w _ from by ((repeat (first | (with_reducible exact Below.refl _ _) | (with_reducible assumption) | (with_reducible refine Below.alloc ?_ ?_ _) | (with_reducible refine Below.setCell ?_ ?_ _) | (with_reducible refine Below.drew ?_) | (with_reducible refine below_setRow ?_ ?_ _) | (refine Below.trans ?_ (Below.mono (by assumption) ?_)))); all_goals (first | omega | (simp; done) | (simp; omega))))) hok rfl hmx (by omega) (by omega)).mono ?_
    rintro r w1 ⟨rfl, hb1⟩
    have hy1 := hb1.size
    try simp only [World.size_alloc, World.size_setCell, World.size_drew, size_setRow] at hy1
    have hD1 : Below w.heap.size w w1 := by ((repeat (first | (with_reducible exact Below.refl _ _) | (with_reducible assumption) | (with_reducible refine Below.alloc ?_ ?_ _) | (with_reducible refine Below.setCell ?_ ?_ _) | (with_reducible refine Below.drew ?_) | (with_reducible refine below_setRow ?_ ?_ _) | (refine Below.trans ?_ (Below.mono (by assumption) ?_)))); all_goals (first | omega | (simp; done) | (simp; omega)))
    have hz1 := hD1.size
    have hT1 : Below w.heap.size w w1 := hD1
    have hA_ : w1.heap[w.heap.size]? = some (.cells #[.slice a xs.length cap, .int .i64 p.root, .int .i64 p.deep, .int .i64 p.most] 53 (0, 0)) := (hb1.block _ (by first | omega | (simp; done) | (simp; omega))).trans (hset_new rfl)
    have kA := box_cells hA_; have hBA := box_lt hA_; clear hA_
    go_wp2_with fail
    refine (toPlan_any a cap _ p xs _ (Shs.keep hsl (show Below w.heap.size w _ from by ((repeat (first | (with_reducible exact Below.refl _ _) | (with_reducible assumption) | (with_reducible refine Below.alloc ?_ ?_ _) | (with_reducible refine Below.setCell ?_ ?_ _) | (with_reducible refine Below.drew ?_) | (with_reducible refine below_setRow ?_ ?_ _) | (refine Below.trans ?_ (Below.mono (by assumption) ?_)))); all_goals (first | omega | (simp; done) | (simp; omega))))) rfl hn hm).mono ?_
    rintro r w2 ⟨a2, cap2, rs2, rfl, ho2, hb2⟩
    have hy2 := hb2.size
    try simp only [World.size_alloc, World.size_setCell, World.size_drew, size_setRow] at hy2
    have hD2 : Below w1.heap.size w1 w2 := by ((repeat (first | (with_reducible exact Below.refl _ _) | (with_reducible assumption) | (with_reducible refine Below.alloc ?_ ?_ _) | (with_reducible refine Below.setCell ?_ ?_ _) | (with_reducible refine Below.drew ?_) | (with_reducible refine below_setRow ?_ ?_ _) | (refine Below.trans ?_ (Below.mono (by assumption) ?_)))); all_goals (first | omega | (simp; done) | (simp; omega)))
    have hz2 := hD2.size
    have hT2 : Below w.heap.size w w2 := hT1.trans (hD2.mono hT1.size)
    have kA_ := box_next hD2 hBA kA; clear kA; have kA := kA_; clear kA_; have hBA_ := Nat.lt_of_lt_of_le hBA hz2; clear hBA; have hBA := hBA_; clear hBA_
    have hc2S := ho2.shsC
    clear ho2
    go_wp2_with fail
    refine (shape (specDecNew_any p a2 cap2 xs _ (ShsC.keep hc2S (show Below w2.heap.size w2 _ from by ((repeat (first | (with_reducible exact Below.refl _ _) | (with_reducible assumption) | (with_reducible refine Below.alloc ?_ ?_ _) | (with_reducible refine Below.setCell ?_ ?_ _) | (with_reducible refine Below.drew ?_) | (with_reducible refine below_setRow ?_ ?_ _) | (refine Below.trans ?_ (Below.mono (by assumption) ?_)))); all_goals (first | omega | (simp; done) | (simp; omega))))) hn hm) HO.out).mono ?_
    rintro r w3 ⟨a3, cap3, rs3, rfl, ho3, hb3⟩
    have hy3 := hb3.size
    try simp only [World.size_alloc, World.size_setCell, World.size_drew, size_setRow] at hy3
    have hD3 : Below w2.heap.size w2 w3 := by ((repeat (first | (with_reducible exact Below.refl _ _) | (with_reducible assumption) | (with_reducible refine Below.alloc ?_ ?_ _) | (with_reducible refine Below.setCell ?_ ?_ _) | (with_reducible refine Below.drew ?_) | (with_reducible refine below_setRow ?_ ?_ _) | (refine Below.trans ?_ (Below.mono (by assumption) ?_)))); all_goals (first | omega | (simp; done) | (simp; omega)))
    have hz3 := hD3.size
    have hT3 : Below w.heap.size w w3 := hT2.trans (hD3.mono hT2.size)
    have kA_ := box_next hD3 hBA kA; clear kA; have kA := kA_; clear kA_; have hBA_ := Nat.lt_of_lt_of_le hBA hz3; clear hBA; have hBA := hBA_; clear hBA_
    have R3 := Lib.hid (OwnDE.of_dec ho3 (World.ownsRow_nil _ _ _ _) (by first | omega | (simp; done) | (simp; omega)))
    clear ho3 hc2S
    go_wp2_with (first | (refine wpList_store_row rfl 74 (.tmp 4) (.tmp 23) rfl (w3.heap.size) #[.slice a3 ys.length cap3, .int .i64 e.p.root, .int .i64 e.p.deep, .int .i64 e.p.most, .int .i64 e.mode, .slice none 0 0, .int .u64 e.bits, .int .i64 e.have_, .int .i64 e.start, .int .i64 e.at_, .int .i64 e.field.number, .int .i64 e.field.kind, .bool e.field.rep, .bool e.field.packed, .int .i64 e.field.msg, .int .i64 e.wire, .int .i64 e.want, .int .i64 e.utf.want, .int .i64 e.utf.low, .int .i64 e.utf.high, .int .i64 e.end_.kind, .int .i64 e.end_.field, .int .u64 e.end_.bits, .int .i64 e.end_.len, .string e.end_.text, .int .i64 e.end_.code, .int .i64 e.end_.at_] rfl rfl 74 #[.slice none 0 0, .int .i64 0, .int .i64 0, .int .i64 0, .int .i64 0, .slice none 0 0, .int .u64 0, .int .i64 0, .int .i64 0, .int .i64 0, .int .i64 0, .int .i64 0, .bool false, .bool false, .int .i64 0, .int .i64 0, .int .i64 0, .int .i64 0, .int .i64 0, .int .i64 0, .int .i64 0, .int .i64 0, .int .u64 0, .int .i64 0, .string ⟨#[]⟩, .int .i64 0, .int .i64 0] (hset_new rfl) size_Dec rfl (one_Dec _ _ _ _ _ _ _) ?_) | (refine wpList_load_mid rfl 53 (.tmp 1) rfl (w.heap.size) 0 rfl [.slice a xs.length cap, .int .i64 p.root, .int .i64 p.deep, .int .i64 p.most] _ (range_of_cells (box_next (w := w3) (by ((repeat (first | (with_reducible exact Below.refl _ _) | (with_reducible assumption) | (with_reducible refine Below.alloc ?_ ?_ _) | (with_reducible refine Below.setCell ?_ ?_ _) | (with_reducible refine Below.drew ?_) | (with_reducible refine below_setRow ?_ ?_ _) | (refine Below.trans ?_ (Below.mono (by assumption) ?_)))); all_goals (first | omega | (simp; done) | (simp; omega)))) hBA kA)) Try.underlying53 rfl size_LPlan ?_))
    refine (toPlan_any a cap _ p xs _ (Shs.keep hsl (show Below w.heap.size w _ from by ((repeat (first | (with_reducible exact Below.refl _ _) | (with_reducible assumption) | (with_reducible refine Below.alloc ?_ ?_ _) | (with_reducible refine Below.setCell ?_ ?_ _) | (with_reducible refine Below.drew ?_) | (with_reducible refine below_setRow ?_ ?_ _) | (refine Below.trans ?_ (Below.mono (by assumption) ?_)))); all_goals (first | omega | (simp; done) | (simp; omega))))) rfl hn hm).mono ?_
    rintro r w4 ⟨a4, cap4, rs4, rfl, ho4, hb4⟩
    have hy4 := hb4.size
    try simp only [World.size_alloc, World.size_setCell, World.size_drew, size_setRow] at hy4
    have hD4 : Below w3.heap.size w3 w4 := by ((repeat (first | (with_reducible exact Below.refl _ _) | (with_reducible assumption) | (with_reducible refine Below.alloc ?_ ?_ _) | (with_reducible refine Below.setCell ?_ ?_ _) | (with_reducible refine Below.drew ?_) | (with_reducible refine below_setRow ?_ ?_ _) | (refine Below.trans ?_ (Below.mono (by assumption) ?_)))); all_goals (first | omega | (simp; done) | (simp; omega)))
    have hz4 := hD4.size
    have hT4 : Below w.heap.size w w4 := hT3.trans (hD4.mono hT3.size)
    have kA_ := box_next hD4 hBA kA; clear kA; have kA := kA_; clear kA_; have hBA_ := Nat.lt_of_lt_of_le hBA hz4; clear hBA; have hBA := hBA_; clear hBA_
    have R3_ := Lib.hid (R3.out.keep hD4); clear R3; have R3 := R3_; clear R3_
    have hW_ : w4.heap[w3.heap.size]? = some (.cells #[.slice a3 ys.length cap3, .int .i64 e.p.root, .int .i64 e.p.deep, .int .i64 e.p.most, .int .i64 e.mode, .slice none 0 0, .int .u64 e.bits, .int .i64 e.have_, .int .i64 e.start, .int .i64 e.at_, .int .i64 e.field.number, .int .i64 e.field.kind, .bool e.field.rep, .bool e.field.packed, .int .i64 e.field.msg, .int .i64 e.wire, .int .i64 e.want, .int .i64 e.utf.want, .int .i64 e.utf.low, .int .i64 e.utf.high, .int .i64 e.end_.kind, .int .i64 e.end_.field, .int .u64 e.end_.bits, .int .i64 e.end_.len, .string e.end_.text, .int .i64 e.end_.code, .int .i64 e.end_.at_] 74 (0, 0)) := (hb4.block _ (by first | omega | (simp; done) | (simp; omega))).trans (hset_row (cs := #[.slice none 0 0, .int .i64 0, .int .i64 0, .int .i64 0, .int .i64 0, .slice none 0 0, .int .u64 0, .int .i64 0, .int .i64 0, .int .i64 0, .int .i64 0, .int .i64 0, .bool false, .bool false, .int .i64 0, .int .i64 0, .int .i64 0, .int .i64 0, .int .i64 0, .int .i64 0, .int .i64 0, .int .i64 0, .int .u64 0, .int .i64 0, .string ⟨#[]⟩, .int .i64 0, .int .i64 0]) (hset_new rfl))
    have kW := box_cells hW_; have hBW := box_lt hW_; clear hW_
    simp only [World.size_alloc, size_setRow] at ho4
    have hc4S := ho4.shsC
    have R4 := Lib.hid (OwnSh.of_own ho4 (by first | omega | (simp; done) | (simp; omega)) (by decide))
    clear ho4
    go_wp2_with fail
    refine (shape (implDecNew_any p a4 cap4 xs _ (ShsC.keep hc4S (show Below w4.heap.size w4 _ from by ((repeat (first | (with_reducible exact Below.refl _ _) | (with_reducible assumption) | (with_reducible refine Below.alloc ?_ ?_ _) | (with_reducible refine Below.setCell ?_ ?_ _) | (with_reducible refine Below.drew ?_) | (with_reducible refine below_setRow ?_ ?_ _) | (refine Below.trans ?_ (Below.mono (by assumption) ?_)))); all_goals (first | omega | (simp; done) | (simp; omega))))) hn hm) HO.out).mono ?_
    rintro r w5 ⟨a5, cap5, rs5, rfl, ho5, hb5⟩
    have hy5 := hb5.size
    try simp only [World.size_alloc, World.size_setCell, World.size_drew, size_setRow] at hy5
    have hD5 : Below w4.heap.size w4 w5 := by ((repeat (first | (with_reducible exact Below.refl _ _) | (with_reducible assumption) | (with_reducible refine Below.alloc ?_ ?_ _) | (with_reducible refine Below.setCell ?_ ?_ _) | (with_reducible refine Below.drew ?_) | (with_reducible refine below_setRow ?_ ?_ _) | (refine Below.trans ?_ (Below.mono (by assumption) ?_)))); all_goals (first | omega | (simp; done) | (simp; omega)))
    have hz5 := hD5.size
    have hT5 : Below w.heap.size w w5 := hT4.trans (hD5.mono hT4.size)
    have kA_ := box_next hD5 hBA kA; clear kA; have kA := kA_; clear kA_; have hBA_ := Nat.lt_of_lt_of_le hBA hz5; clear hBA; have hBA := hBA_; clear hBA_
    have kW_ := box_next hD5 hBW kW; clear kW; have kW := kW_; clear kW_; have hBW_ := Nat.lt_of_lt_of_le hBW hz5; clear hBW; have hBW := hBW_; clear hBW_
    have R3_ := Lib.hid (R3.out.keep hD5); clear R3; have R3 := R3_; clear R3_
    have R4_ := Lib.hid (R4.out.keep hD5); clear R4; have R4 := R4_; clear R4_
    have kX := box_new0 hb5; have hBX := box_lt0 hb5; (try simp only [World.size_alloc, World.size_setCell, World.size_drew, size_setRow] at kX); (try simp only [World.size_alloc, World.size_setCell, World.size_drew, size_setRow] at hBX)
    try simp only [World.size_alloc, World.size_setCell, size_setRow] at ho5
    have R5 := Lib.hid (OwnDE.of_dec ho5 (World.ownsRow_nil _ _ _ _) (by first | omega | (simp; done) | (simp; omega)))
    clear ho5 hc4S
    go_wp2_with (first | (refine wpList_store_row rfl 74 (.tmp 7) (.tmp 30) rfl (w5.heap.size) #[.slice a5 ys.length cap5, .int .i64 e.p.root, .int .i64 e.p.deep, .int .i64 e.p.most, .int .i64 e.mode, .slice none 0 0, .int .u64 e.bits, .int .i64 e.have_, .int .i64 e.start, .int .i64 e.at_, .int .i64 e.field.number, .int .i64 e.field.kind, .bool e.field.rep, .bool e.field.packed, .int .i64 e.field.msg, .int .i64 e.wire, .int .i64 e.want, .int .i64 e.utf.want, .int .i64 e.utf.low, .int .i64 e.utf.high, .int .i64 e.end_.kind, .int .i64 e.end_.field, .int .u64 e.end_.bits, .int .i64 e.end_.len, .string e.end_.text, .int .i64 e.end_.code, .int .i64 e.end_.at_] rfl rfl 74 #[.slice none 0 0, .int .i64 0, .int .i64 0, .int .i64 0, .int .i64 0, .slice none 0 0, .int .u64 0, .int .i64 0, .int .i64 0, .int .i64 0, .int .i64 0, .int .i64 0, .bool false, .bool false, .int .i64 0, .int .i64 0, .int .i64 0, .int .i64 0, .int .i64 0, .int .i64 0, .int .i64 0, .int .i64 0, .int .u64 0, .int .i64 0, .string ⟨#[]⟩, .int .i64 0, .int .i64 0] (hset_new rfl) size_Dec rfl (one_Dec _ _ _ _ _ _ _) ?_) | (refine wpList_load_mid rfl 74 (.tmp 7) rfl (w5.heap.size) 0 rfl [.slice a5 ys.length cap5, .int .i64 e.p.root, .int .i64 e.p.deep, .int .i64 e.p.most, .int .i64 e.mode, .slice none 0 0, .int .u64 e.bits, .int .i64 e.have_, .int .i64 e.start, .int .i64 e.at_, .int .i64 e.field.number, .int .i64 e.field.kind, .bool e.field.rep, .bool e.field.packed, .int .i64 e.field.msg, .int .i64 e.wire, .int .i64 e.want, .int .i64 e.utf.want, .int .i64 e.utf.low, .int .i64 e.utf.high, .int .i64 e.end_.kind, .int .i64 e.end_.field, .int .u64 e.end_.bits, .int .i64 e.end_.len, .string e.end_.text, .int .i64 e.end_.code, .int .i64 e.end_.at_] _ (range_of_box (t := 74) (hset_row (cs := #[.slice none 0 0, .int .i64 0, .int .i64 0, .int .i64 0, .int .i64 0, .slice none 0 0, .int .u64 0, .int .i64 0, .int .i64 0, .int .i64 0, .int .i64 0, .int .i64 0, .bool false, .bool false, .int .i64 0, .int .i64 0, .int .i64 0, .int .i64 0, .int .i64 0, .int .i64 0, .int .i64 0, .int .i64 0, .int .u64 0, .int .i64 0, .string ⟨#[]⟩, .int .i64 0, .int .i64 0]) (hset_new rfl))) Try.underlying74 rfl size_Dec ?_) | (refine wpList_load_mid rfl 74 (.tmp 4) rfl (w3.heap.size) 0 rfl [.slice a3 ys.length cap3, .int .i64 e.p.root, .int .i64 e.p.deep, .int .i64 e.p.most, .int .i64 e.mode, .slice none 0 0, .int .u64 e.bits, .int .i64 e.have_, .int .i64 e.start, .int .i64 e.at_, .int .i64 e.field.number, .int .i64 e.field.kind, .bool e.field.rep, .bool e.field.packed, .int .i64 e.field.msg, .int .i64 e.wire, .int .i64 e.want, .int .i64 e.utf.want, .int .i64 e.utf.low, .int .i64 e.utf.high, .int .i64 e.end_.kind, .int .i64 e.end_.field, .int .u64 e.end_.bits, .int .i64 e.end_.len, .string e.end_.text, .int .i64 e.end_.code, .int .i64 e.end_.at_] _ (range_of_cells (box_next (w := w5) (by ((repeat (first | (with_reducible exact Below.refl _ _) | (with_reducible assumption) | (with_reducible refine Below.alloc ?_ ?_ _) | (with_reducible refine Below.setCell ?_ ?_ _) | (with_reducible refine Below.drew ?_) | (with_reducible refine below_setRow ?_ ?_ _) | (refine Below.trans ?_ (Below.mono (by assumption) ?_)))); all_goals (first | omega | (simp; done) | (simp; omega)))) hBW kW)) Try.underlying74 rfl size_Dec ?_))
    refine (eqDec_same e _ _ _ _ _ ys none none 0 0 0 [] _ (R5.out.keep (show Below w5.heap.size w5 _ from by ((repeat (first | (with_reducible exact Below.refl _ _) | (with_reducible assumption) | (with_reducible refine Below.alloc ?_ ?_ _) | (with_reducible refine Below.setCell ?_ ?_ _) | (with_reducible refine Below.drew ?_) | (with_reducible refine below_setRow ?_ ?_ _) | (refine Below.trans ?_ (Below.mono (by assumption) ?_)))); all_goals (first | omega | (simp; done) | (simp; omega))))).shs (R3.out.keep (show Below w5.heap.size w5 _ from by ((repeat (first | (with_reducible exact Below.refl _ _) | (with_reducible assumption) | (with_reducible refine Below.alloc ?_ ?_ _) | (with_reducible refine Below.setCell ?_ ?_ _) | (with_reducible refine Below.drew ?_) | (with_reducible refine below_setRow ?_ ?_ _) | (refine Below.trans ?_ (Below.mono (by assumption) ?_)))); all_goals (first | omega | (simp; done) | (simp; omega))))).shs (OwnDE.lvls (ls := []) (R5.out.keep (show Below w5.heap.size w5 _ from by ((repeat (first | (with_reducible exact Below.refl _ _) | (with_reducible assumption) | (with_reducible refine Below.alloc ?_ ?_ _) | (with_reducible refine Below.setCell ?_ ?_ _) | (with_reducible refine Below.drew ?_) | (with_reducible refine below_setRow ?_ ?_ _) | (refine Below.trans ?_ (Below.mono (by assumption) ?_)))); all_goals (first | omega | (simp; done) | (simp; omega)))))) (OwnDE.lvls (ls := []) (R3.out.keep (show Below w5.heap.size w5 _ from by ((repeat (first | (with_reducible exact Below.refl _ _) | (with_reducible assumption) | (with_reducible refine Below.alloc ?_ ?_ _) | (with_reducible refine Below.setCell ?_ ?_ _) | (with_reducible refine Below.drew ?_) | (with_reducible refine below_setRow ?_ ?_ _) | (refine Below.trans ?_ (Below.mono (by assumption) ?_)))); all_goals (first | omega | (simp; done) | (simp; omega)))))) rfl rfl hyn hym (by omega)).mono ?_
    rintro r w6 ⟨rfl, hb6⟩
    have hy6 := hb6.size
    try simp only [World.size_alloc, World.size_setCell, World.size_drew, size_setRow] at hy6
    have hD6 : Below w5.heap.size w5 w6 := by ((repeat (first | (with_reducible exact Below.refl _ _) | (with_reducible assumption) | (with_reducible refine Below.alloc ?_ ?_ _) | (with_reducible refine Below.setCell ?_ ?_ _) | (with_reducible refine Below.drew ?_) | (with_reducible refine below_setRow ?_ ?_ _) | (refine Below.trans ?_ (Below.mono (by assumption) ?_)))); all_goals (first | omega | (simp; done) | (simp; omega)))
    have hz6 := hD6.size
    have hT6 : Below w.heap.size w w6 := hT5.trans (hD6.mono hT5.size)
    have kA_ := box_next hD6 hBA kA; clear kA; have kA := kA_; clear kA_; have hBA_ := Nat.lt_of_lt_of_le hBA hz6; clear hBA; have hBA := hBA_; clear hBA_
    have kW_ := box_next hD6 hBW kW; clear kW; have kW := kW_; clear kW_; have hBW_ := Nat.lt_of_lt_of_le hBW hz6; clear hBW; have hBW := hBW_; clear hBW_
    have kX_ := box_next hD6 hBX kX; clear kX; have kX := kX_; clear kX_; have hBX_ := Nat.lt_of_lt_of_le hBX hz6; clear hBX; have hBX := hBX_; clear hBX_
    have R3_ := Lib.hid (R3.out.keep hD6); clear R3; have R3 := R3_; clear R3_
    have R4_ := Lib.hid (R4.out.keep hD6); clear R4; have R4 := R4_; clear R4_
    have R5_ := Lib.hid (R5.out.keep hD6); clear R5; have R5 := R5_; clear R5_
    have hG_ : w6.heap[w5.heap.size]? = some (.cells #[.slice a5 ys.length cap5, .int .i64 e.p.root, .int .i64 e.p.deep, .int .i64 e.p.most, .int .i64 e.mode, .slice none 0 0, .int .u64 e.bits, .int .i64 e.have_, .int .i64 e.start, .int .i64 e.at_, .int .i64 e.field.number, .int .i64 e.field.kind, .bool e.field.rep, .bool e.field.packed, .int .i64 e.field.msg, .int .i64 e.wire, .int .i64 e.want, .int .i64 e.utf.want, .int .i64 e.utf.low, .int .i64 e.utf.high, .int .i64 e.end_.kind, .int .i64 e.end_.field, .int .u64 e.end_.bits, .int .i64 e.end_.len, .string e.end_.text, .int .i64 e.end_.code, .int .i64 e.end_.at_] 74 (0, 0)) := (hb6.block _ (by first | omega | (simp; done) | (simp; omega))).trans (hset_row (cs := #[.slice none 0 0, .int .i64 0, .int .i64 0, .int .i64 0, .int .i64 0, .slice none 0 0, .int .u64 0, .int .i64 0, .int .i64 0, .int .i64 0, .int .i64 0, .int .i64 0, .bool false, .bool false, .int .i64 0, .int .i64 0, .int .i64 0, .int .i64 0, .int .i64 0, .int .i64 0, .int .i64 0, .int .i64 0, .int .u64 0, .int .i64 0, .string ⟨#[]⟩, .int .i64 0, .int .i64 0]) (hset_new rfl))
    have kG := box_cells hG_; have hBG := box_lt hG_; clear hG_
    go_wp2_with fail
    go_region_held3 (fun w' => (∀ i, w'.cell? ⟨w4.heap.size, i, none⟩ = (#[.slice a4 xs.length cap4, .int .i64 p.root, .int .i64 p.deep, .int .i64 p.most] : Array Value)[i]?) ∧ (∀ i, w'.cell? ⟨w.heap.size, i, none⟩ = (#[.slice a xs.length cap, .int .i64 p.root, .int .i64 p.deep, .int .i64 p.most] : Array Value)[i]?) ∧ Below w6.heap.size w6 w') (first | assumption | exact ⟨kX, kA, (Below.refl _ _).drew⟩) (first | (go_at_call 38; have hS7a := held_last2 (by assumption); have hs7a_ := hS7a.size; refine (toPlan_any a cap _ p xs _ (Shs.keep hsl (by have hS6_ := hT6; ((repeat (first | (with_reducible exact Below.refl _ _) | (with_reducible assumption) | (with_reducible refine Below.alloc ?_ ?_ _) | (with_reducible refine Below.setCell ?_ ?_ _) | (with_reducible refine Below.drew ?_) | (with_reducible refine below_setRow ?_ ?_ _) | (refine Below.trans ?_ (Below.mono (by assumption) ?_)))); all_goals (first | omega | (simp; done) | (simp; omega))))) rfl hn hm).mono ?_; rintro r w7a ⟨a7a, cap7a, rs7a, rfl, ho7a, hb7a⟩; have hz7a := hb7a.size; have hT7a := held_next2 (by assumption) hb7a (by omega) (by omega); have hs7a := ho7a.shs; clear ho7a) | (go_at_call 40; have hS7b := held_last2 (by assumption); have hs7b_ := hS7b.size; refine (eqPlan_same _ _ _ _ _ p xs _ ((R4.out.keep (show Below w6.heap.size w6 _ from by ((repeat (first | (with_reducible exact Below.refl _ _) | (with_reducible assumption) | (with_reducible refine Below.alloc ?_ ?_ _) | (with_reducible refine Below.setCell ?_ ?_ _) | (with_reducible refine Below.drew ?_) | (with_reducible refine below_setRow ?_ ?_ _) | (refine Below.trans ?_ (Below.mono (by assumption) ?_)))); all_goals (first | omega | (simp; done) | (simp; omega))))).shs) (Shs.keep hs7a (by ((repeat (first | (with_reducible exact Below.refl _ _) | (with_reducible assumption) | (with_reducible refine Below.alloc ?_ ?_ _) | (with_reducible refine Below.setCell ?_ ?_ _) | (with_reducible refine Below.drew ?_) | (with_reducible refine below_setRow ?_ ?_ _) | (refine Below.trans ?_ (Below.mono (by assumption) ?_)))); all_goals (first | omega | (simp; done) | (simp; omega))))) rfl hn hm).mono ?_; rintro r w7b ⟨rfl, hb7b⟩; have hz7b := hb7b.size; have hT7b := held_next2 (by assumption) hb7b (by omega) (by omega); skip))
    obtain ⟨kX_, kA_, hbT7⟩ := hT7b
    clear kX; have kX := kX_; clear kX_
    have hBX_ := Nat.lt_of_lt_of_le hBX hbT7.size; clear hBX; have hBX := hBX_; clear hBX_
    clear kA; have kA := kA_; clear kA_
    have hBA_ := Nat.lt_of_lt_of_le hBA hbT7.size; clear hBA; have hBA := hBA_; clear hBA_
    have hz7 := hbT7.size
    have hT7 : Below w.heap.size w w7b := hT6.trans (hbT7.mono hT6.size)
    have kW_ := box_next hbT7 hBW kW; clear kW; have kW := kW_; clear kW_; have hBW_ := Nat.lt_of_lt_of_le hBW hz7; clear hBW; have hBW := hBW_; clear hBW_
    have kG_ := box_next hbT7 hBG kG; clear kG; have kG := kG_; clear kG_; have hBG_ := Nat.lt_of_lt_of_le hBG hz7; clear hBG; have hBG := hBG_; clear hBG_
    have R3_ := Lib.hid (R3.out.keep hbT7); clear R3; have R3 := R3_; clear R3_
    have R4_ := Lib.hid (R4.out.keep hbT7); clear R4; have R4 := R4_; clear R4_
    have R5_ := Lib.hid (R5.out.keep hbT7); clear R5; have R5 := R5_; clear R5_
    go_wp2_with fail
    refine (markPlan_any p a4 cap4 _ rs4 xs 1 1 rfl _ _ _ R4.out hn hm (by omega) (by omega)).mono ?_
    rintro r w8 ⟨rfl, ⟨rs4', h4', hsr4⟩, hc8b⟩
    have hc8 := hc8b.toChg (fun b hb => R4.out.blk hb); clear hc8b
    have hz8 := hc8.size
    have hT8 : Below w.heap.size w w8 := hT7.trans ((hc8.below (by omega)).mono (by omega))
    have kA_ := box_chg hc8 hBA (by omega) kA; clear kA; have kA := kA_; clear kA_; have hBA_ := Nat.lt_of_lt_of_le hBA hz8; clear hBA; have hBA := hBA_; clear hBA_
    have kW_ := box_chg hc8 hBW (by omega) kW; clear kW; have kW := kW_; clear kW_; have hBW_ := Nat.lt_of_lt_of_le hBW hz8; clear hBW; have hBW := hBW_; clear hBW_
    have kX_ := box_chg hc8 hBX (by omega) kX; clear kX; have kX := kX_; clear kX_; have hBX_ := Nat.lt_of_lt_of_le hBX hz8; clear hBX; have hBX := hBX_; clear hBX_
    have kG_ := box_chg hc8 hBG (by omega) kG; clear kG; have kG := kG_; clear kG_; have hBG_ := Nat.lt_of_lt_of_le hBG hz8; clear hBG; have hBG := hBG_; clear hBG_
    have R3_ := Lib.hid (R3.out.chg hc8 (by omega)); clear R3; have R3 := R3_; clear R3_
    have R5_ := Lib.hid (R5.out.chg hc8 (by omega)); clear R5; have R5 := R5_; clear R5_
    clear R4; have R4 := Lib.hid h4'; clear h4' hsr4
    go_wp2_with (first | (refine wpList_load_mid rfl 74 (.tmp 7) rfl (w5.heap.size) 0 rfl [.slice a5 ys.length cap5, .int .i64 e.p.root, .int .i64 e.p.deep, .int .i64 e.p.most, .int .i64 e.mode, .slice none 0 0, .int .u64 e.bits, .int .i64 e.have_, .int .i64 e.start, .int .i64 e.at_, .int .i64 e.field.number, .int .i64 e.field.kind, .bool e.field.rep, .bool e.field.packed, .int .i64 e.field.msg, .int .i64 e.wire, .int .i64 e.want, .int .i64 e.utf.want, .int .i64 e.utf.low, .int .i64 e.utf.high, .int .i64 e.end_.kind, .int .i64 e.end_.field, .int .u64 e.end_.bits, .int .i64 e.end_.len, .string e.end_.text, .int .i64 e.end_.code, .int .i64 e.end_.at_] _ (range_of_cells kG) Try.underlying74 rfl size_Dec ?_) | (refine wpList_load_want 74 (.tmp 7) rfl rfl (w5.heap.size) 0 rfl [.slice a5 ys.length cap5, .int .i64 e.p.root, .int .i64 e.p.deep, .int .i64 e.p.most, .int .i64 e.mode, .slice none 0 0, .int .u64 e.bits, .int .i64 e.have_, .int .i64 e.start, .int .i64 e.at_, .int .i64 e.field.number, .int .i64 e.field.kind, .bool e.field.rep, .bool e.field.packed, .int .i64 e.field.msg, .int .i64 e.wire, .int .i64 e.want, .int .i64 e.utf.want, .int .i64 e.utf.low, .int .i64 e.utf.high, .int .i64 e.end_.kind, .int .i64 e.end_.field, .int .u64 e.end_.bits, .int .i64 e.end_.len, .string e.end_.text, .int .i64 e.end_.code, .int .i64 e.end_.at_] _ (range_of_cells kG) Try.underlying74 rfl size_Dec ?_) | (refine wpList_load_mid rfl 74 (.tmp 4) rfl (w3.heap.size) 0 rfl [.slice a3 ys.length cap3, .int .i64 e.p.root, .int .i64 e.p.deep, .int .i64 e.p.most, .int .i64 e.mode, .slice none 0 0, .int .u64 e.bits, .int .i64 e.have_, .int .i64 e.start, .int .i64 e.at_, .int .i64 e.field.number, .int .i64 e.field.kind, .bool e.field.rep, .bool e.field.packed, .int .i64 e.field.msg, .int .i64 e.wire, .int .i64 e.want, .int .i64 e.utf.want, .int .i64 e.utf.low, .int .i64 e.utf.high, .int .i64 e.end_.kind, .int .i64 e.end_.field, .int .u64 e.end_.bits, .int .i64 e.end_.len, .string e.end_.text, .int .i64 e.end_.code, .int .i64 e.end_.at_] _ (range_of_cells kW) Try.underlying74 rfl size_Dec ?_) | (refine wpList_load_want 74 (.tmp 4) rfl rfl (w3.heap.size) 0 rfl [.slice a3 ys.length cap3, .int .i64 e.p.root, .int .i64 e.p.deep, .int .i64 e.p.most, .int .i64 e.mode, .slice none 0 0, .int .u64 e.bits, .int .i64 e.have_, .int .i64 e.start, .int .i64 e.at_, .int .i64 e.field.number, .int .i64 e.field.kind, .bool e.field.rep, .bool e.field.packed, .int .i64 e.field.msg, .int .i64 e.wire, .int .i64 e.want, .int .i64 e.utf.want, .int .i64 e.utf.low, .int .i64 e.utf.high, .int .i64 e.end_.kind, .int .i64 e.end_.field, .int .u64 e.end_.bits, .int .i64 e.end_.len, .string e.end_.text, .int .i64 e.end_.code, .int .i64 e.end_.at_] _ (range_of_cells kW) Try.underlying74 rfl size_Dec ?_))
    refine (eqDec_same e _ _ _ _ _ ys none none 0 0 0 [] _ (R5.out.keep (show Below w8.heap.size w8 _ from by ((repeat (first | (with_reducible exact Below.refl _ _) | (with_reducible assumption) | (with_reducible refine Below.alloc ?_ ?_ _) | (with_reducible refine Below.setCell ?_ ?_ _) | (with_reducible refine Below.drew ?_) | (with_reducible refine below_setRow ?_ ?_ _) | (refine Below.trans ?_ (Below.mono (by assumption) ?_)))); all_goals (first | omega | (simp; done) | (simp; omega))))).shs (R3.out.keep (show Below w8.heap.size w8 _ from by ((repeat (first | (with_reducible exact Below.refl _ _) | (with_reducible assumption) | (with_reducible refine Below.alloc ?_ ?_ _) | (with_reducible refine Below.setCell ?_ ?_ _) | (with_reducible refine Below.drew ?_) | (with_reducible refine below_setRow ?_ ?_ _) | (refine Below.trans ?_ (Below.mono (by assumption) ?_)))); all_goals (first | omega | (simp; done) | (simp; omega))))).shs (OwnDE.lvls (ls := []) (R5.out.keep (show Below w8.heap.size w8 _ from by ((repeat (first | (with_reducible exact Below.refl _ _) | (with_reducible assumption) | (with_reducible refine Below.alloc ?_ ?_ _) | (with_reducible refine Below.setCell ?_ ?_ _) | (with_reducible refine Below.drew ?_) | (with_reducible refine below_setRow ?_ ?_ _) | (refine Below.trans ?_ (Below.mono (by assumption) ?_)))); all_goals (first | omega | (simp; done) | (simp; omega)))))) (OwnDE.lvls (ls := []) (R3.out.keep (show Below w8.heap.size w8 _ from by ((repeat (first | (with_reducible exact Below.refl _ _) | (with_reducible assumption) | (with_reducible refine Below.alloc ?_ ?_ _) | (with_reducible refine Below.setCell ?_ ?_ _) | (with_reducible refine Below.drew ?_) | (with_reducible refine below_setRow ?_ ?_ _) | (refine Below.trans ?_ (Below.mono (by assumption) ?_)))); all_goals (first | omega | (simp; done) | (simp; omega)))))) rfl rfl hyn hym (by omega)).mono ?_
    rintro r w9 ⟨rfl, hb9⟩
    have hy9 := hb9.size
    try simp only [World.size_alloc, World.size_setCell, World.size_drew, size_setRow] at hy9
    have hD9 : Below w8.heap.size w8 w9 := by ((repeat (first | (with_reducible exact Below.refl _ _) | (with_reducible assumption) | (with_reducible refine Below.alloc ?_ ?_ _) | (with_reducible refine Below.setCell ?_ ?_ _) | (with_reducible refine Below.drew ?_) | (with_reducible refine below_setRow ?_ ?_ _) | (refine Below.trans ?_ (Below.mono (by assumption) ?_)))); all_goals (first | omega | (simp; done) | (simp; omega)))
    have hz9 := hD9.size
    have hT9 : Below w.heap.size w w9 := hT8.trans (hD9.mono hT8.size)
    have kA_ := box_next hD9 hBA kA; clear kA; have kA := kA_; clear kA_; have hBA_ := Nat.lt_of_lt_of_le hBA hz9; clear hBA; have hBA := hBA_; clear hBA_
    have kW_ := box_next hD9 hBW kW; clear kW; have kW := kW_; clear kW_; have hBW_ := Nat.lt_of_lt_of_le hBW hz9; clear hBW; have hBW := hBW_; clear hBW_
    have kX_ := box_next hD9 hBX kX; clear kX; have kX := kX_; clear kX_; have hBX_ := Nat.lt_of_lt_of_le hBX hz9; clear hBX; have hBX := hBX_; clear hBX_
    have kG_ := box_next hD9 hBG kG; clear kG; have kG := kG_; clear kG_; have hBG_ := Nat.lt_of_lt_of_le hBG hz9; clear hBG; have hBG := hBG_; clear hBG_
    have R3_ := Lib.hid (R3.out.keep hD9); clear R3; have R3 := R3_; clear R3_
    have R4_ := Lib.hid (R4.out.keep hD9); clear R4; have R4 := R4_; clear R4_
    have R5_ := Lib.hid (R5.out.keep hD9); clear R5; have R5 := R5_; clear R5_
    go_wp2_with (first | (refine wpList_load_mid rfl 74 (.tmp 7) rfl (w5.heap.size) 0 rfl [.slice a5 ys.length cap5, .int .i64 e.p.root, .int .i64 e.p.deep, .int .i64 e.p.most, .int .i64 e.mode, .slice none 0 0, .int .u64 e.bits, .int .i64 e.have_, .int .i64 e.start, .int .i64 e.at_, .int .i64 e.field.number, .int .i64 e.field.kind, .bool e.field.rep, .bool e.field.packed, .int .i64 e.field.msg, .int .i64 e.wire, .int .i64 e.want, .int .i64 e.utf.want, .int .i64 e.utf.low, .int .i64 e.utf.high, .int .i64 e.end_.kind, .int .i64 e.end_.field, .int .u64 e.end_.bits, .int .i64 e.end_.len, .string e.end_.text, .int .i64 e.end_.code, .int .i64 e.end_.at_] _ (range_of_cells kG) Try.underlying74 rfl size_Dec ?_))
    refine (markD_N e a5 cap5 _ rs5 ys none 0 0 [] none 0 [] _ _ N5 _ R5.out hyn hym (by omega) HN5.out).mono ?_
    rintro r w10 ⟨rfl, ⟨rs5', h5'⟩, hc10⟩
    have hz10 := hc10.size
    have hT10 : Below w.heap.size w w10 := hT9.trans ((hc10.below (by omega)).mono (by omega))
    have kA_ := box_chg hc10 hBA (by omega) kA; clear kA; have kA := kA_; clear kA_; have hBA_ := Nat.lt_of_lt_of_le hBA hz10; clear hBA; have hBA := hBA_; clear hBA_
    have kW_ := box_chg hc10 hBW (by omega) kW; clear kW; have kW := kW_; clear kW_; have hBW_ := Nat.lt_of_lt_of_le hBW hz10; clear hBW; have hBW := hBW_; clear hBW_
    have kX_ := box_chg hc10 hBX (by omega) kX; clear kX; have kX := kX_; clear kX_; have hBX_ := Nat.lt_of_lt_of_le hBX hz10; clear hBX; have hBX := hBX_; clear hBX_
    have kG_ := box_chg hc10 hBG (by omega) kG; clear kG; have kG := kG_; clear kG_; have hBG_ := Nat.lt_of_lt_of_le hBG hz10; clear hBG; have hBG := hBG_; clear hBG_
    have R3_ := Lib.hid (R3.out.chg hc10 (by omega)); clear R3; have R3 := R3_; clear R3_
    have R4_ := Lib.hid (R4.out.chg hc10 (by omega)); clear R4; have R4 := R4_; clear R4_
    clear R5; have R5 := Lib.hid h5'; clear h5'
    go_wp2_with (first | (refine wpList_load_mid rfl 74 (.tmp 7) rfl (w5.heap.size) 0 rfl [.slice a5 ys.length cap5, .int .i64 e.p.root, .int .i64 e.p.deep, .int .i64 e.p.most, .int .i64 e.mode, .slice none 0 0, .int .u64 e.bits, .int .i64 e.have_, .int .i64 e.start, .int .i64 e.at_, .int .i64 e.field.number, .int .i64 e.field.kind, .bool e.field.rep, .bool e.field.packed, .int .i64 e.field.msg, .int .i64 e.wire, .int .i64 e.want, .int .i64 e.utf.want, .int .i64 e.utf.low, .int .i64 e.utf.high, .int .i64 e.end_.kind, .int .i64 e.end_.field, .int .u64 e.end_.bits, .int .i64 e.end_.len, .string e.end_.text, .int .i64 e.end_.code, .int .i64 e.end_.at_] _ (range_of_cells kG) Try.underlying74 rfl size_Dec ?_))
    refine (heldD_N e a5 cap5 _ rs5' ys none 0 0 none 0 [] _ _ N5 _ R5.out rfl hyn hym (by omega) HN5.out).mono ?_
    rintro r w11 ⟨rfl, hb11⟩
    have hy11 := hb11.size
    try simp only [World.size_alloc, World.size_setCell, World.size_drew, size_setRow] at hy11
    have hD11 : Below w10.heap.size w10 w11 := by ((repeat (first | (with_reducible exact Below.refl _ _) | (with_reducible assumption) | (with_reducible refine Below.alloc ?_ ?_ _) | (with_reducible refine Below.setCell ?_ ?_ _) | (with_reducible refine Below.drew ?_) | (with_reducible refine below_setRow ?_ ?_ _) | (refine Below.trans ?_ (Below.mono (by assumption) ?_)))); all_goals (first | omega | (simp; done) | (simp; omega)))
    have hz11 := hD11.size
    have hT11 : Below w.heap.size w w11 := hT10.trans (hD11.mono hT10.size)
    have kA_ := box_next hD11 hBA kA; clear kA; have kA := kA_; clear kA_; have hBA_ := Nat.lt_of_lt_of_le hBA hz11; clear hBA; have hBA := hBA_; clear hBA_
    have kW_ := box_next hD11 hBW kW; clear kW; have kW := kW_; clear kW_; have hBW_ := Nat.lt_of_lt_of_le hBW hz11; clear hBW; have hBW := hBW_; clear hBW_
    have kX_ := box_next hD11 hBX kX; clear kX; have kX := kX_; clear kX_; have hBX_ := Nat.lt_of_lt_of_le hBX hz11; clear hBX; have hBX := hBX_; clear hBX_
    have kG_ := box_next hD11 hBG kG; clear kG; have kG := kG_; clear kG_; have hBG_ := Nat.lt_of_lt_of_le hBG hz11; clear hBG; have hBG := hBG_; clear hBG_
    have R3_ := Lib.hid (R3.out.keep hD11); clear R3; have R3 := R3_; clear R3_
    have R4_ := Lib.hid (R4.out.keep hD11); clear R4; have R4 := R4_; clear R4_
    have R5_ := Lib.hid (R5.out.keep hD11); clear R5; have R5 := R5_; clear R5_
    go_wp2_with fail
    refine (toPlan_any a cap _ p xs _ (Shs.keep hsl (show Below w.heap.size w _ from by ((repeat (first | (with_reducible exact Below.refl _ _) | (with_reducible assumption) | (with_reducible refine Below.alloc ?_ ?_ _) | (with_reducible refine Below.setCell ?_ ?_ _) | (with_reducible refine Below.drew ?_) | (with_reducible refine below_setRow ?_ ?_ _) | (refine Below.trans ?_ (Below.mono (by assumption) ?_)))); all_goals (first | omega | (simp; done) | (simp; omega))))) rfl hn hm).mono ?_
    rintro r w12 ⟨a12, cap12, rs12, rfl, ho12, hb12⟩
    have hy12 := hb12.size
    try simp only [World.size_alloc, World.size_setCell, World.size_drew, size_setRow] at hy12
    have hD12 : Below w11.heap.size w11 w12 := by ((repeat (first | (with_reducible exact Below.refl _ _) | (with_reducible assumption) | (with_reducible refine Below.alloc ?_ ?_ _) | (with_reducible refine Below.setCell ?_ ?_ _) | (with_reducible refine Below.drew ?_) | (with_reducible refine below_setRow ?_ ?_ _) | (refine Below.trans ?_ (Below.mono (by assumption) ?_)))); all_goals (first | omega | (simp; done) | (simp; omega)))
    have hz12 := hD12.size
    have hT12 : Below w.heap.size w w12 := hT11.trans (hD12.mono hT11.size)
    have kA_ := box_next hD12 hBA kA; clear kA; have kA := kA_; clear kA_; have hBA_ := Nat.lt_of_lt_of_le hBA hz12; clear hBA; have hBA := hBA_; clear hBA_
    have kW_ := box_next hD12 hBW kW; clear kW; have kW := kW_; clear kW_; have hBW_ := Nat.lt_of_lt_of_le hBW hz12; clear hBW; have hBW := hBW_; clear hBW_
    have kX_ := box_next hD12 hBX kX; clear kX; have kX := kX_; clear kX_; have hBX_ := Nat.lt_of_lt_of_le hBX hz12; clear hBX; have hBX := hBX_; clear hBX_
    have kG_ := box_next hD12 hBG kG; clear kG; have kG := kG_; clear kG_; have hBG_ := Nat.lt_of_lt_of_le hBG hz12; clear hBG; have hBG := hBG_; clear hBG_
    have R3_ := Lib.hid (R3.out.keep hD12); clear R3; have R3 := R3_; clear R3_
    have R4_ := Lib.hid (R4.out.keep hD12); clear R4; have R4 := R4_; clear R4_
    have R5_ := Lib.hid (R5.out.keep hD12); clear R5; have R5 := R5_; clear R5_
    have hc12S := ho12.shsC
    clear ho12
    go_wp2_with fail
    refine (shape (implDecNew_any p a12 cap12 xs _ (ShsC.keep hc12S (show Below w12.heap.size w12 _ from by ((repeat (first | (with_reducible exact Below.refl _ _) | (with_reducible assumption) | (with_reducible refine Below.alloc ?_ ?_ _) | (with_reducible refine Below.setCell ?_ ?_ _) | (with_reducible refine Below.drew ?_) | (with_reducible refine below_setRow ?_ ?_ _) | (refine Below.trans ?_ (Below.mono (by assumption) ?_)))); all_goals (first | omega | (simp; done) | (simp; omega))))) hn hm) HO.out).mono ?_
    rintro r w13 ⟨a13, cap13, rs13, rfl, ho13, hb13⟩
    have hy13 := hb13.size
    try simp only [World.size_alloc, World.size_setCell, World.size_drew, size_setRow] at hy13
    have hD13 : Below w12.heap.size w12 w13 := by ((repeat (first | (with_reducible exact Below.refl _ _) | (with_reducible assumption) | (with_reducible refine Below.alloc ?_ ?_ _) | (with_reducible refine Below.setCell ?_ ?_ _) | (with_reducible refine Below.drew ?_) | (with_reducible refine below_setRow ?_ ?_ _) | (refine Below.trans ?_ (Below.mono (by assumption) ?_)))); all_goals (first | omega | (simp; done) | (simp; omega)))
    have hz13 := hD13.size
    have hT13 : Below w.heap.size w w13 := hT12.trans (hD13.mono hT12.size)
    have kA_ := box_next hD13 hBA kA; clear kA; have kA := kA_; clear kA_; have hBA_ := Nat.lt_of_lt_of_le hBA hz13; clear hBA; have hBA := hBA_; clear hBA_
    have kW_ := box_next hD13 hBW kW; clear kW; have kW := kW_; clear kW_; have hBW_ := Nat.lt_of_lt_of_le hBW hz13; clear hBW; have hBW := hBW_; clear hBW_
    have kX_ := box_next hD13 hBX kX; clear kX; have kX := kX_; clear kX_; have hBX_ := Nat.lt_of_lt_of_le hBX hz13; clear hBX; have hBX := hBX_; clear hBX_
    have kG_ := box_next hD13 hBG kG; clear kG; have kG := kG_; clear kG_; have hBG_ := Nat.lt_of_lt_of_le hBG hz13; clear hBG; have hBG := hBG_; clear hBG_
    have R3_ := Lib.hid (R3.out.keep hD13); clear R3; have R3 := R3_; clear R3_
    have R4_ := Lib.hid (R4.out.keep hD13); clear R4; have R4 := R4_; clear R4_
    have R5_ := Lib.hid (R5.out.keep hD13); clear R5; have R5 := R5_; clear R5_
    have R13 := Lib.hid (OwnDE.of_dec ho13 (World.ownsRow_nil _ _ _ _) (by first | omega | (simp; done) | (simp; omega)))
    clear ho13 hc12S
    go_wp2_with (first | (refine wpList_store_row rfl 74 (.tmp 12) (.tmp 77) rfl (w13.heap.size) #[.slice a13 ys.length cap13, .int .i64 e.p.root, .int .i64 e.p.deep, .int .i64 e.p.most, .int .i64 e.mode, .slice none 0 0, .int .u64 e.bits, .int .i64 e.have_, .int .i64 e.start, .int .i64 e.at_, .int .i64 e.field.number, .int .i64 e.field.kind, .bool e.field.rep, .bool e.field.packed, .int .i64 e.field.msg, .int .i64 e.wire, .int .i64 e.want, .int .i64 e.utf.want, .int .i64 e.utf.low, .int .i64 e.utf.high, .int .i64 e.end_.kind, .int .i64 e.end_.field, .int .u64 e.end_.bits, .int .i64 e.end_.len, .string e.end_.text, .int .i64 e.end_.code, .int .i64 e.end_.at_] rfl rfl 74 #[.slice none 0 0, .int .i64 0, .int .i64 0, .int .i64 0, .int .i64 0, .slice none 0 0, .int .u64 0, .int .i64 0, .int .i64 0, .int .i64 0, .int .i64 0, .int .i64 0, .bool false, .bool false, .int .i64 0, .int .i64 0, .int .i64 0, .int .i64 0, .int .i64 0, .int .i64 0, .int .i64 0, .int .i64 0, .int .u64 0, .int .i64 0, .string ⟨#[]⟩, .int .i64 0, .int .i64 0] (hset_new rfl) size_Dec rfl (one_Dec _ _ _ _ _ _ _) ?_) | (refine wpList_load_mid rfl 74 (.tmp 12) rfl (w13.heap.size) 0 rfl [.slice a13 ys.length cap13, .int .i64 e.p.root, .int .i64 e.p.deep, .int .i64 e.p.most, .int .i64 e.mode, .slice none 0 0, .int .u64 e.bits, .int .i64 e.have_, .int .i64 e.start, .int .i64 e.at_, .int .i64 e.field.number, .int .i64 e.field.kind, .bool e.field.rep, .bool e.field.packed, .int .i64 e.field.msg, .int .i64 e.wire, .int .i64 e.want, .int .i64 e.utf.want, .int .i64 e.utf.low, .int .i64 e.utf.high, .int .i64 e.end_.kind, .int .i64 e.end_.field, .int .u64 e.end_.bits, .int .i64 e.end_.len, .string e.end_.text, .int .i64 e.end_.code, .int .i64 e.end_.at_] _ (range_of_box (t := 74) (hset_row (cs := #[.slice none 0 0, .int .i64 0, .int .i64 0, .int .i64 0, .int .i64 0, .slice none 0 0, .int .u64 0, .int .i64 0, .int .i64 0, .int .i64 0, .int .i64 0, .int .i64 0, .bool false, .bool false, .int .i64 0, .int .i64 0, .int .i64 0, .int .i64 0, .int .i64 0, .int .i64 0, .int .i64 0, .int .i64 0, .int .u64 0, .int .i64 0, .string ⟨#[]⟩, .int .i64 0, .int .i64 0]) (hset_new rfl))) Try.underlying74 rfl size_Dec ?_) | (refine wpList_load_mid rfl 74 (.tmp 4) rfl (w3.heap.size) 0 rfl [.slice a3 ys.length cap3, .int .i64 e.p.root, .int .i64 e.p.deep, .int .i64 e.p.most, .int .i64 e.mode, .slice none 0 0, .int .u64 e.bits, .int .i64 e.have_, .int .i64 e.start, .int .i64 e.at_, .int .i64 e.field.number, .int .i64 e.field.kind, .bool e.field.rep, .bool e.field.packed, .int .i64 e.field.msg, .int .i64 e.wire, .int .i64 e.want, .int .i64 e.utf.want, .int .i64 e.utf.low, .int .i64 e.utf.high, .int .i64 e.end_.kind, .int .i64 e.end_.field, .int .u64 e.end_.bits, .int .i64 e.end_.len, .string e.end_.text, .int .i64 e.end_.code, .int .i64 e.end_.at_] _ (range_of_cells (box_next (w := w13) (by ((repeat (first | (with_reducible exact Below.refl _ _) | (with_reducible assumption) | (with_reducible refine Below.alloc ?_ ?_ _) | (with_reducible refine Below.setCell ?_ ?_ _) | (with_reducible refine Below.drew ?_) | (with_reducible refine below_setRow ?_ ?_ _) | (refine Below.trans ?_ (Below.mono (by assumption) ?_)))); all_goals (first | omega | (simp; done) | (simp; omega)))) hBW kW)) Try.underlying74 rfl size_Dec ?_))
    refine (eqDec_same e _ _ _ _ _ ys none none 0 0 0 [] _ (R13.out.keep (show Below w13.heap.size w13 _ from by ((repeat (first | (with_reducible exact Below.refl _ _) | (with_reducible assumption) | (with_reducible refine Below.alloc ?_ ?_ _) | (with_reducible refine Below.setCell ?_ ?_ _) | (with_reducible refine Below.drew ?_) | (with_reducible refine below_setRow ?_ ?_ _) | (refine Below.trans ?_ (Below.mono (by assumption) ?_)))); all_goals (first | omega | (simp; done) | (simp; omega))))).shs (R3.out.keep (show Below w13.heap.size w13 _ from by ((repeat (first | (with_reducible exact Below.refl _ _) | (with_reducible assumption) | (with_reducible refine Below.alloc ?_ ?_ _) | (with_reducible refine Below.setCell ?_ ?_ _) | (with_reducible refine Below.drew ?_) | (with_reducible refine below_setRow ?_ ?_ _) | (refine Below.trans ?_ (Below.mono (by assumption) ?_)))); all_goals (first | omega | (simp; done) | (simp; omega))))).shs (OwnDE.lvls (ls := []) (R13.out.keep (show Below w13.heap.size w13 _ from by ((repeat (first | (with_reducible exact Below.refl _ _) | (with_reducible assumption) | (with_reducible refine Below.alloc ?_ ?_ _) | (with_reducible refine Below.setCell ?_ ?_ _) | (with_reducible refine Below.drew ?_) | (with_reducible refine below_setRow ?_ ?_ _) | (refine Below.trans ?_ (Below.mono (by assumption) ?_)))); all_goals (first | omega | (simp; done) | (simp; omega)))))) (OwnDE.lvls (ls := []) (R3.out.keep (show Below w13.heap.size w13 _ from by ((repeat (first | (with_reducible exact Below.refl _ _) | (with_reducible assumption) | (with_reducible refine Below.alloc ?_ ?_ _) | (with_reducible refine Below.setCell ?_ ?_ _) | (with_reducible refine Below.drew ?_) | (with_reducible refine below_setRow ?_ ?_ _) | (refine Below.trans ?_ (Below.mono (by assumption) ?_)))); all_goals (first | omega | (simp; done) | (simp; omega)))))) rfl rfl hyn hym (by omega)).mono ?_
    rintro r w14 ⟨rfl, hb14⟩
    have hy14 := hb14.size
    try simp only [World.size_alloc, World.size_setCell, World.size_drew, size_setRow] at hy14
    have hD14 : Below w13.heap.size w13 w14 := by ((repeat (first | (with_reducible exact Below.refl _ _) | (with_reducible assumption) | (with_reducible refine Below.alloc ?_ ?_ _) | (with_reducible refine Below.setCell ?_ ?_ _) | (with_reducible refine Below.drew ?_) | (with_reducible refine below_setRow ?_ ?_ _) | (refine Below.trans ?_ (Below.mono (by assumption) ?_)))); all_goals (first | omega | (simp; done) | (simp; omega)))
    have hz14 := hD14.size
    have hT14 : Below w.heap.size w w14 := hT13.trans (hD14.mono hT13.size)
    have kA_ := box_next hD14 hBA kA; clear kA; have kA := kA_; clear kA_; have hBA_ := Nat.lt_of_lt_of_le hBA hz14; clear hBA; have hBA := hBA_; clear hBA_
    have kW_ := box_next hD14 hBW kW; clear kW; have kW := kW_; clear kW_; have hBW_ := Nat.lt_of_lt_of_le hBW hz14; clear hBW; have hBW := hBW_; clear hBW_
    have kX_ := box_next hD14 hBX kX; clear kX; have kX := kX_; clear kX_; have hBX_ := Nat.lt_of_lt_of_le hBX hz14; clear hBX; have hBX := hBX_; clear hBX_
    have kG_ := box_next hD14 hBG kG; clear kG; have kG := kG_; clear kG_; have hBG_ := Nat.lt_of_lt_of_le hBG hz14; clear hBG; have hBG := hBG_; clear hBG_
    have R3_ := Lib.hid (R3.out.keep hD14); clear R3; have R3 := R3_; clear R3_
    have R4_ := Lib.hid (R4.out.keep hD14); clear R4; have R4 := R4_; clear R4_
    have R5_ := Lib.hid (R5.out.keep hD14); clear R5; have R5 := R5_; clear R5_
    have R13_ := Lib.hid (R13.out.keep hD14); clear R13; have R13 := R13_; clear R13_
    have hH_ : w14.heap[w13.heap.size]? = some (.cells #[.slice a13 ys.length cap13, .int .i64 e.p.root, .int .i64 e.p.deep, .int .i64 e.p.most, .int .i64 e.mode, .slice none 0 0, .int .u64 e.bits, .int .i64 e.have_, .int .i64 e.start, .int .i64 e.at_, .int .i64 e.field.number, .int .i64 e.field.kind, .bool e.field.rep, .bool e.field.packed, .int .i64 e.field.msg, .int .i64 e.wire, .int .i64 e.want, .int .i64 e.utf.want, .int .i64 e.utf.low, .int .i64 e.utf.high, .int .i64 e.end_.kind, .int .i64 e.end_.field, .int .u64 e.end_.bits, .int .i64 e.end_.len, .string e.end_.text, .int .i64 e.end_.code, .int .i64 e.end_.at_] 74 (0, 0)) := (hb14.block _ (by first | omega | (simp; done) | (simp; omega))).trans (hset_row (cs := #[.slice none 0 0, .int .i64 0, .int .i64 0, .int .i64 0, .int .i64 0, .slice none 0 0, .int .u64 0, .int .i64 0, .int .i64 0, .int .i64 0, .int .i64 0, .int .i64 0, .bool false, .bool false, .int .i64 0, .int .i64 0, .int .i64 0, .int .i64 0, .int .i64 0, .int .i64 0, .int .i64 0, .int .i64 0, .int .u64 0, .int .i64 0, .string ⟨#[]⟩, .int .i64 0, .int .i64 0]) (hset_new rfl))
    have kH := box_cells hH_; have hBH := box_lt hH_; clear hH_
    go_wp2_with (first | (refine wpList_load_mid rfl 74 (.tmp 7) rfl (w5.heap.size) 0 rfl [.slice a5 ys.length cap5, .int .i64 e.p.root, .int .i64 e.p.deep, .int .i64 e.p.most, .int .i64 e.mode, .slice none 0 0, .int .u64 e.bits, .int .i64 e.have_, .int .i64 e.start, .int .i64 e.at_, .int .i64 e.field.number, .int .i64 e.field.kind, .bool e.field.rep, .bool e.field.packed, .int .i64 e.field.msg, .int .i64 e.wire, .int .i64 e.want, .int .i64 e.utf.want, .int .i64 e.utf.low, .int .i64 e.utf.high, .int .i64 e.end_.kind, .int .i64 e.end_.field, .int .u64 e.end_.bits, .int .i64 e.end_.len, .string e.end_.text, .int .i64 e.end_.code, .int .i64 e.end_.at_] _ (range_of_cells kG) Try.underlying74 rfl size_Dec ?_))
    refine (heldD_N e a5 cap5 _ rs5' ys none 0 0 none 0 [] _ _ N5 _ R5.out rfl hyn hym (by omega) HN5.out).mono ?_
    rintro r w15 ⟨rfl, hb15⟩
    have hy15 := hb15.size
    try simp only [World.size_alloc, World.size_setCell, World.size_drew, size_setRow] at hy15
    have hD15 : Below w14.heap.size w14 w15 := by ((repeat (first | (with_reducible exact Below.refl _ _) | (with_reducible assumption) | (with_reducible refine Below.alloc ?_ ?_ _) | (with_reducible refine Below.setCell ?_ ?_ _) | (with_reducible refine Below.drew ?_) | (with_reducible refine below_setRow ?_ ?_ _) | (refine Below.trans ?_ (Below.mono (by assumption) ?_)))); all_goals (first | omega | (simp; done) | (simp; omega)))
    have hz15 := hD15.size
    have hT15 : Below w.heap.size w w15 := hT14.trans (hD15.mono hT14.size)
    have kA_ := box_next hD15 hBA kA; clear kA; have kA := kA_; clear kA_; have hBA_ := Nat.lt_of_lt_of_le hBA hz15; clear hBA; have hBA := hBA_; clear hBA_
    have kW_ := box_next hD15 hBW kW; clear kW; have kW := kW_; clear kW_; have hBW_ := Nat.lt_of_lt_of_le hBW hz15; clear hBW; have hBW := hBW_; clear hBW_
    have kX_ := box_next hD15 hBX kX; clear kX; have kX := kX_; clear kX_; have hBX_ := Nat.lt_of_lt_of_le hBX hz15; clear hBX; have hBX := hBX_; clear hBX_
    have kG_ := box_next hD15 hBG kG; clear kG; have kG := kG_; clear kG_; have hBG_ := Nat.lt_of_lt_of_le hBG hz15; clear hBG; have hBG := hBG_; clear hBG_
    have kH_ := box_next hD15 hBH kH; clear kH; have kH := kH_; clear kH_; have hBH_ := Nat.lt_of_lt_of_le hBH hz15; clear hBH; have hBH := hBH_; clear hBH_
    have R3_ := Lib.hid (R3.out.keep hD15); clear R3; have R3 := R3_; clear R3_
    have R4_ := Lib.hid (R4.out.keep hD15); clear R4; have R4 := R4_; clear R4_
    have R5_ := Lib.hid (R5.out.keep hD15); clear R5; have R5 := R5_; clear R5_
    have R13_ := Lib.hid (R13.out.keep hD15); clear R13; have R13 := R13_; clear R13_
    go_wp2
    go_ret
    exact ⟨rfl, hT15⟩

set_option maxRecDepth 100000 in
theorem lifted (os : Os) (started : os.Started) (H : Type) (enc : TypeId × Value → H) :
    ReturnsInHanded {} Try.checked os 6 .any (Rows.fnExactDecNewSpec.pre6 enc Try.prog Try.f6 Rows.fnExactDecNewRow.domain false) (Rows.fnExactDecNewSpec.post enc Try.prog Try.f6 false true false false) := by
  refine returnsInHanded_of_change (C := Try.checked) own started (by kernel_rfl) Try.func6
    (ChangeSpec.witness6 (enc := enc) (C := Try.checked) false ⟨#[], #[.agg #[.slice none 0 0, .int .i64 0, .int .i64 0, .int .i64 0]], []⟩ 8 (by kernel_rfl) (by kernel_rfl) (by kernel_rfl) (by kernel_rfl)) ?_
  intro W base args ds gs before hval0 hW hcnd _
  have hval : ∀ (j : Nat) t v, Try.f6.params[j]? = some t → args[j]? = some v → Value.okWide Try.prog W .any base t v := hval0
  have hW' := hW
  obtain ⟨p, q, hA0, hV, rfl, hfz, hnd⟩ := hW
  have hA : DataW.TrodAll enc Try.prog W 0 (fun _ => true) true Try.f6.params.toList args.toList ds p := hA0
  rw [Try.params6] at hA hval
  obtain ⟨v0, vs0, d0, ds0, p0, q0, hargs, rfl, rfl, h0, r0⟩ := trodAll_cons hA
  obtain ⟨rfl, rfl, rfl⟩ := trodAll_nil r0
  obtain rfl : args = #[v0] := by cases args; simp_all
  obtain ⟨rfl, rfl⟩ := trodVars_none hV
  have k0 := h0
  have lt0 : ∀ x ∈ p0, x.block < W.heap.size := by obtain ⟨m, hm⟩ := k0; exact DataW.trod_lt m _ _ _ hm
  obtain ⟨x0, e0, w0⟩ := openPlan (hval 0 53 v0 rfl rfl) h0
  subst e0
  clear hA0 hval0
  refine (walk W x0 w0).mono fun e W' ⟨he, bel⟩ => ?_
  subst he
  exact ⟨_, rfl, _, _, _, [], _, [], hW', trodAll_mk1 (shut_bool Try.underlying4 _), (trodAll_cons_mk (Below.trod laidOut (by kernel_rfl) (of_decide_eq_true (by kernel_rfl)) k0 bel lt0) trodAll_mk0), rfl, bel.frame _, fun h => by cases h⟩

theorem over : Rows.fnExactDecNewRow.holds Try.pinned (OpenSpec.ofChange Rows.fnExactDecNewSpec) :=
  OpenClaim.holds_of_wide 6 Try.f6 rfl rfl rfl rfl rfl rfl rfl ⟨rfl, rfl, rfl, rfl, rfl⟩ rfl rfl rfl rfl rfl (by kernel_rfl) Try.func6 (by kernel_rfl)
    (of_decide_eq_true (by kernel_rfl)) (by unfold Func.isWrapper; first | (rw [if_pos (by decide +kernel)]; kernel_rfl) | (rw [if_neg (by decide +kernel)]; exact ⟨rfl, rfl⟩))
    (fun os started H enc _ => lifted os started H enc)

/-- The given statement. -/
theorem proved : Rows.FnExactDecNewSaid := over
end Go.Proofs.Ythebmmhhkkemcaa.fnExactDecNew


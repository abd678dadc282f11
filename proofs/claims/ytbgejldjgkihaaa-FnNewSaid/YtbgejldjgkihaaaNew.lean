/- A new decoder: the reference and the program. -/
import Derived.Test.YtbgejldjgkihaaaCpyD
import Derived.Test.YtbgejldjgkihaaaReg
namespace Go.Proofs.Ytbgejldjgkihaaa
set_option linter.unusedSimpArgs false
set_option linter.unusedVariables false
open Go.ChangeShapes Go.WideShapes Go.ChangeAt Go.RowKit Go.BigFrame

/-- The decoder of a plan, and the one of none. -/
def freshD (p : Pl) (m : Int) : Dc := ⟨p, m, 0, 0, 0, 0, ⟨0, 0, false, false, 0⟩, 0, 0, ⟨0, 0, 0⟩, ⟨0, 0, 0, 0, ⟨#[]⟩, 0, 0⟩⟩
def newO (p : Pl) (xs : List Shp) : Dc × List Shp × Bool := if planOk p xs then (freshD p 1, xs, true) else (freshD ⟨0, 0, 0⟩ 0, [], false)
theorem newO_yes {p : Pl} {xs : List Shp} (h : planOk p xs = true) : newO p xs = (freshD p 1, xs, true) := by unfold newO; rw [if_pos h]
theorem newO_no {p : Pl} {xs : List Shp} (h : planOk p xs = false) : newO p xs = (freshD ⟨0, 0, 0⟩ 0, [], false) := by unfold newO; rw [if_neg (by simp [h])]
theorem newO_len (p : Pl) (xs : List Shp) (hn : xs.length ≤ 1048576) (hm : fldSum xs ≤ 1048576) : (newO p xs).2.1.length ≤ 1048576 ∧ fldSum (newO p xs).2.1 ≤ 1048576 := by
  unfold newO; split
  · exact ⟨hn, hm⟩
  · exact ⟨by simp, by simp [fldSum]⟩
def FreshN (w : World) (T TF : TypeId) (O : Dc × List Shp × Bool) (r : Ending) (w' : World) : Prop :=
  ∃ a cap rs, r = .returned (.tuple #[O.1.val (.slice a O.2.1.length cap) (.slice none 0 0), .bool O.2.2]) ∧ OwnShs w' w.heap.size T TF (.slice a O.2.1.length cap) O.2.1.length rs O.2.1 ∧ Below w.heap.size w w'
theorem fin_new (w W : World) (f : Func) (tm : Array Value) (e : Dc) (ys : List Shp) (ok : Bool) (a : Option Addr) (cap : Nat) (rs : List ShR) (hr : f.results = #[.cell 2 66, .tmp 3])
    (t1 : tm.getD 2 undef = .pointer (some ⟨w.heap.size + 1, 0, none⟩)) (t2 : tm.getD 3 undef = .bool ok)
    (h1 : W.heap[w.heap.size + 1]? = some (.cells #[.slice a ys.length cap, .int .i64 e.p.root, .int .i64 e.p.deep, .int .i64 e.p.most, .int .i64 e.mode, .slice none 0 0, .int .u64 e.bits, .int .i64 e.have_, .int .i64 e.start, .int .i64 e.at_, .int .i64 e.field.number, .int .i64 e.field.kind, .bool e.field.rep, .bool e.field.packed, .int .i64 e.field.msg, .int .i64 e.wire, .int .i64 e.want, .int .i64 e.utf.want, .int .i64 e.utf.low, .int .i64 e.utf.high, .int .i64 e.end_.kind, .int .i64 e.end_.field, .int .u64 e.end_.bits, .int .i64 e.end_.len, .string e.end_.text, .int .i64 e.end_.code, .int .i64 e.end_.at_] 66 (0, 0)))
    (h2 : OwnShs W w.heap.size 43 47 (.slice a ys.length cap) ys.length rs ys) (h3 : Below w.heap.size w W) :
    bodyPost Try.prog f (FreshN w 43 47 (e, ys, ok)) .ret ⟨tm, []⟩ W :=
  bodyPost_ret (v := .tuple #[e.val (.slice a ys.length cap) (.slice none 0 0), .bool ok]) (results_cell_tmp hr t1 t2 (run_loadVar_mid W (w.heap.size + 1) 0 66 [.slice a ys.length cap, .int .i64 e.p.root, .int .i64 e.p.deep, .int .i64 e.p.most, .int .i64 e.mode, .slice none 0 0, .int .u64 e.bits, .int .i64 e.have_, .int .i64 e.start, .int .i64 e.at_, .int .i64 e.field.number, .int .i64 e.field.kind, .bool e.field.rep, .bool e.field.packed, .int .i64 e.field.msg, .int .i64 e.wire, .int .i64 e.want, .int .i64 e.utf.want, .int .i64 e.utf.low, .int .i64 e.utf.high, .int .i64 e.end_.kind, .int .i64 e.end_.field, .int .u64 e.end_.bits, .int .i64 e.end_.len, .string e.end_.text, .int .i64 e.end_.code, .int .i64 e.end_.at_] _ (range_of_box h1) Try.underlying66 rfl size_Dec)) rfl ⟨a, cap, rs, rfl, h2, h3⟩
set_option maxRecDepth 100000 in
set_option maxHeartbeats 2000000 in
theorem implDecNew_any (p : Pl) (a : Option Addr) (cap : Nat) (xs : List Shp) (w : World) (h : ShsC w a xs) (hn : xs.length ≤ 1048576) (hm : fldSum xs ≤ 1048576) :
    Calls Try.prog 22 #[p.val (.slice a xs.length cap)] w (FreshN w 43 47 (newO p xs)) := by
  have HSs := Lib.hid h; clear h
  obtain ⟨O, hO⟩ : ∃ O, newO p xs = O := ⟨_, rfl⟩
  rw [hO]
  have HO := Lib.hid hO; clear hO
  go_enter Try.func22, Try.ntmps22
  go_wp2_with fail
  refine (implPlanOk_any a cap _ p xs _ (HSs.out.shs.keep (by ((repeat (first | (with_reducible exact Below.refl _ _) | (with_reducible assumption) | (with_reducible refine Below.alloc ?_ ?_ _) | (with_reducible refine Below.setCell ?_ ?_ _) | (with_reducible refine Below.drew ?_) | (with_reducible refine below_setRow ?_ ?_ _) | (refine Below.trans ?_ (Below.mono (by assumption) ?_)))); all_goals (first | omega | (simp; done) | (simp; omega))))) rfl hn hm).mono ?_
  rintro r w1 ⟨rfl, hb1⟩
  have hz1 := hb1.size
  simp only [World.size_alloc] at hz1
  have hA_ : w1.heap[w.heap.size]? = some (.cells #[.slice a xs.length cap, .int .i64 p.root, .int .i64 p.deep, .int .i64 p.most] 55 (0, 0)) := (hb1.block _ (by simp; omega)).trans (hset_alloc (hset_new rfl))
  have hR_ : w1.heap[w.heap.size + 1]? = some (.cells #[.slice none 0 0, .int .i64 0, .int .i64 0, .int .i64 0, .int .i64 0, .slice none 0 0, .int .u64 0, .int .i64 0, .int .i64 0, .int .i64 0, .int .i64 0, .int .i64 0, .bool false, .bool false, .int .i64 0, .int .i64 0, .int .i64 0, .int .i64 0, .int .i64 0, .int .i64 0, .int .i64 0, .int .i64 0, .int .u64 0, .int .i64 0, .string ⟨#[]⟩, .int .i64 0, .int .i64 0] 66 (0, 0)) := (hb1.block _ (by simp)).trans (hset_new (by simp))
  have hb1b : Below w.heap.size w w1 := by ((repeat (first | (with_reducible exact Below.refl _ _) | (with_reducible assumption) | (with_reducible refine Below.alloc ?_ ?_ _) | (with_reducible refine Below.setCell ?_ ?_ _) | (with_reducible refine Below.drew ?_) | (with_reducible refine below_setRow ?_ ?_ _) | (refine Below.trans ?_ (Below.mono (by assumption) ?_)))); all_goals (first | omega | (simp; done) | (simp; omega)))
  have kA := box_cells hA_; have fA := box_frozen hA_; have hBA := box_lt hA_
  have HA := Lib.hid hA_; clear hA_
  have HR := Lib.hid hR_; clear hR_ hb1
  cases hk : planOk p xs
  · have HO3 := Lib.hid (show O = (freshD ⟨0, 0, 0⟩ 0, [], false) from by rw [← HO.out]; exact newO_no hk)
    go_wp2_with (first | (refine wpList_store_row rfl 66 (.tmp 2) (.tmp 7) rfl (w.heap.size + 1) #[.slice none 0 0, .int .i64 0, .int .i64 0, .int .i64 0, .int .i64 0, .slice none 0 0, .int .u64 0, .int .i64 0, .int .i64 0, .int .i64 0, .int .i64 0, .int .i64 0, .bool false, .bool false, .int .i64 0, .int .i64 0, .int .i64 0, .int .i64 0, .int .i64 0, .int .i64 0, .int .i64 0, .int .i64 0, .int .u64 0, .int .i64 0, .string ⟨#[]⟩, .int .i64 0, .int .i64 0] rfl rfl 66 #[.slice none 0 0, .int .i64 0, .int .i64 0, .int .i64 0, .int .i64 0, .slice none 0 0, .int .u64 0, .int .i64 0, .int .i64 0, .int .i64 0, .int .i64 0, .int .i64 0, .bool false, .bool false, .int .i64 0, .int .i64 0, .int .i64 0, .int .i64 0, .int .i64 0, .int .i64 0, .int .i64 0, .int .i64 0, .int .u64 0, .int .i64 0, .string ⟨#[]⟩, .int .i64 0, .int .i64 0] HR.out size_Dec rfl (by simp [Value.oneCell']) ?_))
    rw [HO3.out]
    refine fin_new w _ _ _ (freshD ⟨0, 0, 0⟩ 0) [] false none 0 [] Try.results22 ?_ ?_ ?_ ?_ ?_
    · rfl
    · rfl
    · exact hset_row (cs := #[.slice none 0 0, .int .i64 0, .int .i64 0, .int .i64 0, .int .i64 0, .slice none 0 0, .int .u64 0, .int .i64 0, .int .i64 0, .int .i64 0, .int .i64 0, .int .i64 0, .bool false, .bool false, .int .i64 0, .int .i64 0, .int .i64 0, .int .i64 0, .int .i64 0, .int .i64 0, .int .i64 0, .int .i64 0, .int .u64 0, .int .i64 0, .string ⟨#[]⟩, .int .i64 0, .int .i64 0]) HR.out
    · exact OwnShs.nil _ _ _ _
    · ((repeat (first | (with_reducible exact Below.refl _ _) | (with_reducible assumption) | (with_reducible refine Below.alloc ?_ ?_ _) | (with_reducible refine Below.setCell ?_ ?_ _) | (with_reducible refine Below.drew ?_) | (with_reducible refine below_setRow ?_ ?_ _) | (refine Below.trans ?_ (Below.mono (by assumption) ?_)))); all_goals (first | omega | (simp; done) | (simp; omega)))
  · have HO3 := Lib.hid (show O = (freshD p 1, xs, true) from by rw [← HO.out]; exact newO_yes hk)
    go_wp2_with fail
    refine (copyPlan_any p a cap _ xs _ (ShsC.keep HSs.out (show Below w.heap.size w _ from by ((repeat (first | (with_reducible exact Below.refl _ _) | (with_reducible assumption) | (with_reducible refine Below.alloc ?_ ?_ _) | (with_reducible refine Below.setCell ?_ ?_ _) | (with_reducible refine Below.drew ?_) | (with_reducible refine below_setRow ?_ ?_ _) | (refine Below.trans ?_ (Below.mono (by assumption) ?_)))); all_goals (first | omega | (simp; done) | (simp; omega))))) rfl hn hm).mono ?_
    rintro r w2 ⟨a2, cap2, rs2, rfl, ho2, hb2⟩
    have hz2 := hb2.size
    have hb12 : Below w1.heap.size w1 w2 := by ((repeat (first | (with_reducible exact Below.refl _ _) | (with_reducible assumption) | (with_reducible refine Below.alloc ?_ ?_ _) | (with_reducible refine Below.setCell ?_ ?_ _) | (with_reducible refine Below.drew ?_) | (with_reducible refine below_setRow ?_ ?_ _) | (refine Below.trans ?_ (Below.mono (by assumption) ?_)))); all_goals (first | omega | (simp; done) | (simp; omega)))
    have P2 := Lib.hid (OwnShs.le ho2 (show w.heap.size + 1 + 1 ≤ _ by first | omega | (simp; omega))); clear ho2
    have HA2 := Lib.hid ((hb12.block _ (by omega)).trans HA.out); clear HA kA fA hBA
    have HR2 := Lib.hid ((hb12.block _ (by omega)).trans HR.out); clear HR
    clear hb2
    go_wp2_with (first | (refine wpList_store_row rfl 66 (.tmp 2) (.tmp 10) rfl (w.heap.size + 1) #[.slice a2 xs.length cap2, .int .i64 p.root, .int .i64 p.deep, .int .i64 p.most, .int .i64 1, .slice none 0 0, .int .u64 0, .int .i64 0, .int .i64 0, .int .i64 0, .int .i64 0, .int .i64 0, .bool false, .bool false, .int .i64 0, .int .i64 0, .int .i64 0, .int .i64 0, .int .i64 0, .int .i64 0, .int .i64 0, .int .i64 0, .int .u64 0, .int .i64 0, .string ⟨#[]⟩, .int .i64 0, .int .i64 0] rfl rfl 66 #[.slice none 0 0, .int .i64 0, .int .i64 0, .int .i64 0, .int .i64 0, .slice none 0 0, .int .u64 0, .int .i64 0, .int .i64 0, .int .i64 0, .int .i64 0, .int .i64 0, .bool false, .bool false, .int .i64 0, .int .i64 0, .int .i64 0, .int .i64 0, .int .i64 0, .int .i64 0, .int .i64 0, .int .i64 0, .int .u64 0, .int .i64 0, .string ⟨#[]⟩, .int .i64 0, .int .i64 0] HR2.out size_Dec rfl (by simp [Value.oneCell']) ?_))
    rw [HO3.out]
    refine fin_new w _ _ _ (freshD p 1) xs true a2 cap2 rs2 Try.results22 ?_ ?_ ?_ ?_ ?_
    · rfl
    · rfl
    · exact hset_row (cs := #[.slice none 0 0, .int .i64 0, .int .i64 0, .int .i64 0, .int .i64 0, .slice none 0 0, .int .u64 0, .int .i64 0, .int .i64 0, .int .i64 0, .int .i64 0, .int .i64 0, .bool false, .bool false, .int .i64 0, .int .i64 0, .int .i64 0, .int .i64 0, .int .i64 0, .int .i64 0, .int .i64 0, .int .i64 0, .int .u64 0, .int .i64 0, .string ⟨#[]⟩, .int .i64 0, .int .i64 0]) HR2.out
    · exact (OwnShs.setRow P2.out (by omega) _).le (by omega)
    · ((repeat (first | (with_reducible exact Below.refl _ _) | (with_reducible assumption) | (with_reducible refine Below.alloc ?_ ?_ _) | (with_reducible refine Below.setCell ?_ ?_ _) | (with_reducible refine Below.drew ?_) | (with_reducible refine below_setRow ?_ ?_ _) | (refine Below.trans ?_ (Below.mono (by assumption) ?_)))); all_goals (first | omega | (simp; done) | (simp; omega)))
end Go.Proofs.Ytbgejldjgkihaaa

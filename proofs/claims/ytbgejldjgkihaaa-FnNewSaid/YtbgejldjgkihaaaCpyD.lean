/- Copies of plans and decoders. -/
import Derived.Test.YtbgejldjgkihaaaCpyS
import Derived.Test.YtbgejldjgkihaaaToDec
import Derived.Test.YtbgejldjgkihaaaPlanOk
namespace Go.Proofs.Ytbgejldjgkihaaa
set_option linter.unusedSimpArgs false
set_option linter.unusedVariables false
open Go.ChangeShapes Go.WideShapes Go.ChangeAt Go.RowKit Go.BigFrame

theorem lvl_nil {w : World} {a : Option Addr} {cap : Nat} {ls : List Lvl} (h : Lvls w a ls) (hn : a = none → cap = 0) : a = none → ls.length = 0 ∧ cap = 0 := fun e => ⟨by rw [e] at h; rw [sl_none h]; rfl, hn e⟩
theorem sl_newsN {α : Type} {sz : Nat} {cs : α → List Value} {w : World} {a : Option Addr} {xs : List α} (hsz : 0 < sz) (hcs : ∀ x, (cs x).length = sz) (h : Sl sz cs w a xs) :
    ∀ (ad : Addr), a = some ad → ∀ (j : Nat) (u : Value), (xs.flatMap cs)[j]? = some u → w.cell? (ad.add j) = some u := fun ad e => sl_news hsz hcs (by rw [← e]; exact h)
theorem OwnShs.chain {w w' : World} {base B n : Nat} {T TF : TypeId} {v : Value} {rs : List ShR} {xs : List Shp} (h : OwnShs w base T TF v n rs xs) (hb : Below B w w') (hB : w.heap.size ≤ B) : OwnShs w' base T TF v n rs xs := h.below hb hB
set_option maxRecDepth 100000 in
set_option maxHeartbeats 2000000 in
theorem copyPlan_any (p : Pl) (a : Option Addr) (cap n : Nat) (xs : List Shp) (w : World) (h : ShsC w a xs) (hx : xs.length = n) (hn : n ≤ 1048576) (hm : fldSum xs ≤ 1048576) :
    Calls Try.prog 66 #[p.val (.slice a n cap)] w (FreshPlan w 43 47 n p xs) := by
  have HX := Lib.hid hx; clear hx
  have HSs := Lib.hid h; clear h
  go_enter Try.func66, Try.ntmps66
  go_wp2_with fail
  refine (copySchema_any a cap n xs _ (HSs.out.keep (by ((repeat (first | (with_reducible exact Below.refl _ _) | (with_reducible assumption) | (with_reducible refine Below.alloc ?_ ?_ _) | (with_reducible refine Below.setCell ?_ ?_ _) | (with_reducible refine Below.drew ?_) | (with_reducible refine below_setRow ?_ ?_ _) | (refine Below.trans ?_ (Below.mono (by assumption) ?_)))); all_goals (first | omega | (simp; done) | (simp; omega))))) HX.out hn hm).mono ?_
  rintro r w1 ⟨a1, cap1, rs1, rfl, ho1, hb1⟩
  have hz1 := hb1.size
  simp only [World.size_alloc] at hz1
  have P1 := Lib.hid (OwnShs.le ho1 (show w.heap.size + 1 + 1 ≤ _ by simp)); clear ho1
  have hA_ : w1.heap[w.heap.size]? = some (.cells #[.slice a n cap, .int .i64 p.root, .int .i64 p.deep, .int .i64 p.most] 55 (0, 0)) := (hb1.block _ (by simp; omega)).trans (hset_alloc (hset_new rfl))
  have hR_ : w1.heap[w.heap.size + 1]? = some (.cells #[.slice none 0 0, .int .i64 0, .int .i64 0, .int .i64 0] 55 (0, 0)) := (hb1.block _ (by simp)).trans (hset_new (by simp))
  have hb1b : Below w.heap.size w w1 := by ((repeat (first | (with_reducible exact Below.refl _ _) | (with_reducible assumption) | (with_reducible refine Below.alloc ?_ ?_ _) | (with_reducible refine Below.setCell ?_ ?_ _) | (with_reducible refine Below.drew ?_) | (with_reducible refine below_setRow ?_ ?_ _) | (refine Below.trans ?_ (Below.mono (by assumption) ?_)))); all_goals (first | omega | (simp; done) | (simp; omega)))
  clear hb1
  have kA := box_cells hA_; have fA := box_frozen hA_; have hBA := box_lt hA_
  have kR := box_cells hR_; have fR := box_frozen hR_; have hBR := box_lt hR_
  have HR := Lib.hid hR_; clear hR_ hA_
  go_wp2
  have hW := hset_set (o := 3) (v := .int .i64 p.most) (hset_set (o := 2) (v := .int .i64 p.deep) (hset_set (o := 1) (v := .int .i64 p.root) (hset_set (o := 0) (v := .slice a1 n cap1) (hset_other (p := ⟨w.heap.size, 0, none⟩) (v := .slice a1 n cap1) HR.out (by simp)))))
  have kW := box_cells hW
  simp only [List.setIfInBounds_toArray, List.set_cons_zero, List.set_cons_succ] at kW
  refine bodyPost_ret (v := p.val (.slice a1 n cap1)) (by simp [results, Try.results66, go_sem, kW]) rfl ⟨a1, cap1, rs1, rfl, ?_, by ((repeat (first | (with_reducible exact Below.refl _ _) | (with_reducible assumption) | (with_reducible refine Below.alloc ?_ ?_ _) | (with_reducible refine Below.setCell ?_ ?_ _) | (with_reducible refine Below.drew ?_) | (with_reducible refine below_setRow ?_ ?_ _) | (refine Below.trans ?_ (Below.mono (by assumption) ?_)))); all_goals (first | omega | (simp; done) | (simp; omega)))⟩
  ((first | refine owns_le (base := ?_) ?_ ?_ | refine OwnShs.le (base := ?_) ?_ ?_); rotate_left; (repeat (first | (refine owns_set ?_ ?_ _) | (refine OwnShs.set ?_ ?_ _) | exact P1.out)); all_goals (first | omega | (simp; done) | (simp; omega)))
end Go.Proofs.Ytbgejldjgkihaaa

/- Retained: both give the same field. -/
import Derived.Test.YtbgejldjgkihaaaDecW
namespace Go.Proofs.Ytbgejldjgkihaaa
set_option linter.unusedSimpArgs false
set_option linter.unusedVariables false
open Go.ChangeShapes Go.WideShapes Go.ChangeAt Go.RowKit Go.BigFrame
theorem implRetained_any (d : Dc) (a : Option Addr) (cap n : Nat) (xs : List Shp) (sa : Option Addr) (scap m : Nat) (ls : List Lvl) (w : World) (h : Shs w a xs) (h' : Lvls w sa ls) (hd : d.ok) (hok : ∀ e ∈ xs, ShpOk e) (hx : xs.length = n) (hl : ls.length = m) (hn : n ≤ 1048576) (hm : fldSum xs ≤ 1048576) (hm' : m ≤ 1048576) :
    Calls Try.prog 27 #[d.val (.slice a n cap) (.slice sa m scap)] w fun r w' => r = .returned (.int .i64 d.have_) ∧ Below w.heap.size w w' := by
  clear hx hl
  go_enter Try.func27, Try.ntmps27
  go_wp2
  go_ret
  exact ⟨rfl, by ((repeat (first | (with_reducible exact Below.refl _ _) | (with_reducible assumption) | (with_reducible refine Below.alloc ?_ ?_ _) | (with_reducible refine Below.setCell ?_ ?_ _) | (with_reducible refine Below.drew ?_) | (with_reducible refine below_setRow ?_ ?_ _) | (refine Below.trans ?_ (Below.mono (by assumption) ?_)))); all_goals (first | omega | (simp; done) | (simp; omega)))⟩
end Go.Proofs.Ytbgejldjgkihaaa

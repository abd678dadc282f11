/- A decoder copied by the law's own function. (Printed by wip/tools/decgen.py todec.) -/
import Derived.Test.YtbgejldjgkihaaaDecW
namespace Go.Proofs.Ytbgejldjgkihaaa
set_option linter.unusedSimpArgs false
set_option linter.unusedVariables false
open Go.ChangeShapes Go.WideShapes Go.ChangeAt Go.RowKit Go.BigFrame

theorem results_cell {fn : Func} {p : Tmp} {ty : TypeId} (h : fn.results = #[.cell p ty]) {tmps : Array Value} {a : Addr} (hp : tmps.getD p undef = .pointer (some a)) {P : Program} {w : World} {v : Value} (hv : (loadVar ty a).run P w = .ok v w) : (results fn tmps).run P w = .ok v w := by
  have hp' : tmps[p]?.getD undef = .pointer (some a) := by simpa using hp
  simp only [results, h]
  simp [Sem.run_bind, Result.andThen, hp', asAddr, hv]
theorem range_of_cells {w : World} {b : Nat} {cs : List Value} (h : ∀ i, w.cell? ⟨b, i, none⟩ = (cs.toArray)[i]?) : w.rangeAt b 0 cs := by
  intro j u hj
  rw [Nat.zero_add, h]; simpa using hj
theorem range_of_box {w : World} {b : Nat} {cs : List Value} {t : TypeId} (h : w.heap[b]? = some (.cells cs.toArray t (0, 0))) : w.rangeAt b 0 cs := by
  intro j u hj
  simp [World.cell?, h, hj]

end Go.Proofs.Ytbgejldjgkihaaa

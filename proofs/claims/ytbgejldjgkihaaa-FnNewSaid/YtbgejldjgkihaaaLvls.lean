/- Slices of levels: what the laws' own functions do with them. (Printed by wip/tools/rowgen.py.) -/
import Derived.Test.YtbgejldjgkihaaaSl
namespace Go.Proofs.Ytbgejldjgkihaaa
set_option linter.unusedSimpArgs false
set_option linter.unusedVariables false
open Go.ChangeShapes Go.WideShapes Go.ChangeAt Go.RowKit Go.BigFrame
structure Lvl where
  msg : Int
  left : Int
  deriving DecidableEq
@[reducible] def Lvl.cs (f : Lvl) : List Value := [.int .i64 f.msg, .int .i64 f.left]
@[reducible] def Lvl.val (f : Lvl) : Value := .agg #[.int .i64 f.msg, .int .i64 f.left]
structure Lvl.ok (f : Lvl) : Prop where
  msg : W64 f.msg
  left : W64 f.left

@[reducible] def Lvls := Sl 2 Lvl.cs
theorem Lvls.at {w : World} {a : Option Addr} {xs : List Lvl} (h : Lvls w a xs) {k : Nat} {e : Lvl} (he : xs[k]? = some e) :
    ∃ b off, a = some ⟨b, off, none⟩ ∧ b < w.heap.size ∧ w.cell? ⟨b, off + k * 2, none⟩ = some (.int .i64 e.msg) ∧ w.cell? ⟨b, off + k * 2 + 1, none⟩ = some (.int .i64 e.left) := by
  obtain ⟨b, off, ha, hlt, hc⟩ := h k e he
  exact ⟨b, off, ha, hlt, hc 0 _ rfl, hc 1 _ rfl⟩
theorem lvl_len (e : Lvl) : e.cs.length = 2 := rfl
theorem owns_store_lvl {w : World} {base g cap n : Nat} {t : TypeId} {L : List Value} (h : w.ownsRow base t 2 (.slice (some ⟨g, 0, none⟩) n cap) n L) (k : Nat) (e : Lvl) :
    ((w.setCell ⟨g, k * 2, none⟩ (.int .i64 e.msg)).setCell ⟨g, k * 2 + 1, none⟩ (.int .i64 e.left)).ownsRow base t 2 (.slice (some ⟨g, 0, none⟩) n cap) n (setRow L (k * 2) e.cs) := by
  have h0 := (h.stored (k * 2) (.int .i64 e.msg)).1
  exact (h0.stored (k * 2 + 1) (.int .i64 e.left)).1
theorem lvls_of_own {w' : World} {base n cap : Nat} {a : Option Addr} {t : TypeId} {xs : List Lvl} (h : w'.ownsRow base t 2 (.slice a n cap) n (xs.flatMap Lvl.cs)) (hn : xs.length = n) : Lvls w' a xs := by
  obtain ⟨a', cap', e, _, _, hs⟩ := Sl.of_owns lvl_len h hn
  simp only [Value.slice.injEq] at e
  rw [e.1]; exact hs

end Go.Proofs.Ytbgejldjgkihaaa

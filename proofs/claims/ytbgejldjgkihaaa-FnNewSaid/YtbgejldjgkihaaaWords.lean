/- Contracts of the functions that give a word for a code. -/
import Derived.Test.YtbgejldjgkihaaaEv
namespace Go.Proofs.Ytbgejldjgkihaaa
set_option linter.unusedSimpArgs false
set_option linter.unusedVariables false
open Go.ChangeShapes Go.WideShapes Go.ChangeAt Go.RowKit

@[go_sem] def arrElem (P : Program) (t : TypeId) : TypeId := match P.underlying t with | some (.array _ e) => e | _ => 0
@[go_sem] def arrLen (P : Program) (t : TypeId) : Nat := match P.underlying t with | some (.array m _) => m | _ => 0
/-- The element of an array value at an index within its bounds; the elements are cells. -/
@[go_sem] theorem run_index_arr {P : Program} {w : World} {t : TypeId} {cs : Array Value} {k : IntKind} {n : Int} (ht : P.underlying t = some (.array (arrLen P t) (arrElem P t)))
    (h0 : 0 ≤ n) (h1 : n < arrLen P t) (hagg : (isAgg (arrElem P t)).run P w = .ok false w) (hs : (sizeOf (arrElem P t)).run P w = .ok 1 w) (hv : n.toNat < cs.size) : (Instr.index t (.agg cs) (.int k n)).run P w = .ok (cs.getD n.toNat undef) w := by
  have h2 : 0 ≤ n ∧ n < arrLen P t := ⟨h0, h1⟩
  simp only [Instr.index, asIntOf, part]
  simp only [Sem.run_bind, Sem.run_pure, Result.andThen_ok, run_underlying ht]
  simp [h2, hagg, hs, hv]

def wordAt (l : List (List UInt8)) (k : Int) : ByteArray := ⟨(if 1 ≤ k then l.getD (k - 1).toNat [] else []).toArray⟩
def errWords : List (List UInt8) := [[118, 97, 114, 105, 110, 116], [116, 97, 103], [119, 105, 114, 101], [107, 105, 110, 100], [117, 116, 102], [100, 101, 101, 112], [102, 114, 97, 109, 101], [108, 101, 110, 103, 116, 104], [101, 110, 100], [99, 117, 116]]
def evWords : List (List UInt8) := [[102, 114, 97, 109, 101], [110, 117, 109], [111, 112, 101, 110], [112, 97, 114, 116], [115, 104, 117, 116], [100, 111, 119, 110], [117, 112], [101, 110, 100], [100, 111, 110, 101], [102, 97, 105, 108]]
def modeWords : List (List UInt8) := [[102, 114, 97, 109, 101], [116, 97, 103], [118, 97, 114], [108, 101, 110], [102, 105, 120], [116, 101, 120, 116], [115, 107, 105, 112], [114, 117, 110], [115, 116, 111, 112]]

theorem ten {k : Int} (h1 : 1 ≤ k) (h2 : k ≤ 10) : k = 1 ∨ k = 2 ∨ k = 3 ∨ k = 4 ∨ k = 5 ∨ k = 6 ∨ k = 7 ∨ k = 8 ∨ k = 9 ∨ k = 10 := by omega
theorem nine {k : Int} (h1 : 1 ≤ k) (h2 : k ≤ 9) : k = 1 ∨ k = 2 ∨ k = 3 ∨ k = 4 ∨ k = 5 ∨ k = 6 ∨ k = 7 ∨ k = 8 ∨ k = 9 := by omega
theorem wordAt_low {l : List (List UInt8)} {k : Int} (h : k < 1) : wordAt l k = ⟨#[]⟩ := by simp [wordAt]; omega
theorem wordAt_high {l : List (List UInt8)} {k : Int} (h : l.length < k) : wordAt l k = ⟨#[]⟩ := by
  simp only [wordAt]; congr 1; split
  · simp only [List.getD_eq_getElem?_getD]; rw [List.getElem?_eq_none (by omega)]; rfl
  · rfl

end Go.Proofs.Ytbgejldjgkihaaa

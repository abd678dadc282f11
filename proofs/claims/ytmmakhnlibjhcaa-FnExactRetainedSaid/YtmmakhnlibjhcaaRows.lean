/-
  No cell of these rows narrows 'for every input' (looked for: loops, veiled, ifaces, maps, wideKeys, modest, calm, conditions, laid).
  DERIVED. THE GIVEN ROWS OF THIS SEAT. 12 by the template 'for every input the law returns true; each argument reads behind the call as it read before'; 0 by the template 'total and deterministic' (their statements: YtmmakhnlibjhcaaTotals.lean).
  GIVEN WITH THE SEED: the statements are not yours to turn. If you find one false, say at which input.
  Laid BY PROGRAM, IN A SANDBOX (cutbox-rows.mjs): the forced cells as the released guide's own fill.sh prints them over the translation fd100a8b90012d02… (all of the seat's roots in one cut). By AI agents, Wed Nov 11 2026. No macro, syntax, notation, axiom, sorry.
-/
import Derived.Test.YtmmakhnlibjhcaaChecked
import GoSem.Claim
import GoSem.ClaimJoined
import GoSem.ClaimMapViews
import Derived.JoinedTies
import Derived.KernelRfl
namespace Go.Proofs.Ytmmakhnlibjhcaa
/- THE CELL 'sum', in the pinned program and in every row, IS THE sha256 OF THE DUMP (.gsa) THAT YtmmakhnlibjhcaaProg.lean LOADS. Nothing in Lean hashes anything: it is a label: what it is worth is what the hold of that sum in a sandbox is worth. -/
noncomputable def Try.pinned : Pinned := { name := "ytmmakhnlibjhcaa", sum := "fd100a8b90012d0204eb8ee56d6005300d46f2e0c3863923cf504913809f4883", checked := Try.checked }
namespace Rows
def none {H : Type} : Left H := { results := [], args := [] }

/-- 'laws.FnExactShapeAt': WHATEVER THE INPUT: true; the input reads as it did. -/
def fnExactShapeAtSpec : ChangeSpec := { name := "fnExactShapeAt", fn := fun _ => fun
  | [d1, d2] => { results := [.lit (.bool true)], args := [d1, d2] }
  | _ => none }
def fnExactShapeAtRow : OpenClaim := { program := "ytmmakhnlibjhcaa", sum := "fd100a8b90012d0204eb8ee56d6005300d46f2e0c3863923cf504913809f4883", func := "loop.example/g00498/laws.FnExactShapeAt", spec := "fnExactShapeAt", unfollowed := true, recurses := true, apart := false }
def FnExactShapeAtSaid : Prop := fnExactShapeAtRow.holds Try.pinned (OpenSpec.ofChange fnExactShapeAtSpec)

/-- ITS FALSE NEIGHBOUR: 'it returns false'. Refute it at one input. -/
def fnExactShapeAtWrong : ChangeSpec := { name := "fnExactShapeAt", fn := fun _ => fun
  | [d1, d2] => { results := [.lit (.bool false)], args := [d1, d2] }
  | _ => none }
def FnExactShapeAtWrongFalsely : Prop := fnExactShapeAtRow.holds Try.pinned (OpenSpec.ofChange fnExactShapeAtWrong)

/-- 'laws.FnExactFieldAt': WHATEVER THE INPUT: true; the input reads as it did. -/
def fnExactFieldAtSpec : ChangeSpec := { name := "fnExactFieldAt", fn := fun _ => fun
  | [d1, d2, d3] => { results := [.lit (.bool true)], args := [d1, d2, d3] }
  | _ => none }
def fnExactFieldAtRow : OpenClaim := { program := "ytmmakhnlibjhcaa", sum := "fd100a8b90012d0204eb8ee56d6005300d46f2e0c3863923cf504913809f4883", func := "loop.example/g00498/laws.FnExactFieldAt", spec := "fnExactFieldAt", apart := false }
def FnExactFieldAtSaid : Prop := fnExactFieldAtRow.holds Try.pinned (OpenSpec.ofChange fnExactFieldAtSpec)

/-- ITS FALSE NEIGHBOUR: 'it returns false'. Refute it at one input. -/
def fnExactFieldAtWrong : ChangeSpec := { name := "fnExactFieldAt", fn := fun _ => fun
  | [d1, d2, d3] => { results := [.lit (.bool false)], args := [d1, d2, d3] }
  | _ => none }
def FnExactFieldAtWrongFalsely : Prop := fnExactFieldAtRow.holds Try.pinned (OpenSpec.ofChange fnExactFieldAtWrong)

/-- 'laws.FnExactSameSchema': WHATEVER THE INPUT: true; the input reads as it did. -/
def fnExactSameSchemaSpec : ChangeSpec := { name := "fnExactSameSchema", fn := fun _ => fun
  | [d1, d2] => { results := [.lit (.bool true)], args := [d1, d2] }
  | _ => none }
def fnExactSameSchemaRow : OpenClaim := { program := "ytmmakhnlibjhcaa", sum := "fd100a8b90012d0204eb8ee56d6005300d46f2e0c3863923cf504913809f4883", func := "loop.example/g00498/laws.FnExactSameSchema", spec := "fnExactSameSchema", unfollowed := true, recurses := true, apart := false }
def FnExactSameSchemaSaid : Prop := fnExactSameSchemaRow.holds Try.pinned (OpenSpec.ofChange fnExactSameSchemaSpec)

/-- ITS FALSE NEIGHBOUR: 'it returns false'. Refute it at one input. -/
def fnExactSameSchemaWrong : ChangeSpec := { name := "fnExactSameSchema", fn := fun _ => fun
  | [d1, d2] => { results := [.lit (.bool false)], args := [d1, d2] }
  | _ => none }
def FnExactSameSchemaWrongFalsely : Prop := fnExactSameSchemaRow.holds Try.pinned (OpenSpec.ofChange fnExactSameSchemaWrong)

/-- 'laws.FnExactSchemaOk': WHATEVER THE INPUT: true; the input reads as it did. -/
def fnExactSchemaOkSpec : ChangeSpec := { name := "fnExactSchemaOk", fn := fun _ => fun
  | [d] => { results := [.lit (.bool true)], args := [d] }
  | _ => none }
def fnExactSchemaOkRow : OpenClaim := { program := "ytmmakhnlibjhcaa", sum := "fd100a8b90012d0204eb8ee56d6005300d46f2e0c3863923cf504913809f4883", func := "loop.example/g00498/laws.FnExactSchemaOk", spec := "fnExactSchemaOk", apart := false }
def FnExactSchemaOkSaid : Prop := fnExactSchemaOkRow.holds Try.pinned (OpenSpec.ofChange fnExactSchemaOkSpec)

/-- ITS FALSE NEIGHBOUR: 'it returns false'. Refute it at one input. -/
def fnExactSchemaOkWrong : ChangeSpec := { name := "fnExactSchemaOk", fn := fun _ => fun
  | [d] => { results := [.lit (.bool false)], args := [d] }
  | _ => none }
def FnExactSchemaOkWrongFalsely : Prop := fnExactSchemaOkRow.holds Try.pinned (OpenSpec.ofChange fnExactSchemaOkWrong)

/-- 'laws.FnExactPlanOk': WHATEVER THE INPUT: true; the input reads as it did. -/
def fnExactPlanOkSpec : ChangeSpec := { name := "fnExactPlanOk", fn := fun _ => fun
  | [d] => { results := [.lit (.bool true)], args := [d] }
  | _ => none }
def fnExactPlanOkRow : OpenClaim := { program := "ytmmakhnlibjhcaa", sum := "fd100a8b90012d0204eb8ee56d6005300d46f2e0c3863923cf504913809f4883", func := "loop.example/g00498/laws.FnExactPlanOk", spec := "fnExactPlanOk", apart := false }
def FnExactPlanOkSaid : Prop := fnExactPlanOkRow.holds Try.pinned (OpenSpec.ofChange fnExactPlanOkSpec)

/-- ITS FALSE NEIGHBOUR: 'it returns false'. Refute it at one input. -/
def fnExactPlanOkWrong : ChangeSpec := { name := "fnExactPlanOk", fn := fun _ => fun
  | [d] => { results := [.lit (.bool false)], args := [d] }
  | _ => none }
def FnExactPlanOkWrongFalsely : Prop := fnExactPlanOkRow.holds Try.pinned (OpenSpec.ofChange fnExactPlanOkWrong)

/-- 'laws.FnExactRetained': WHATEVER THE INPUT: true; the input reads as it did. -/
def fnExactRetainedSpec : ChangeSpec := { name := "fnExactRetained", fn := fun _ => fun
  | [d] => { results := [.lit (.bool true)], args := [d] }
  | _ => none }
def fnExactRetainedRow : OpenClaim := { program := "ytmmakhnlibjhcaa", sum := "fd100a8b90012d0204eb8ee56d6005300d46f2e0c3863923cf504913809f4883", func := "loop.example/g00498/laws.FnExactRetained", spec := "fnExactRetained", apart := false }
def FnExactRetainedSaid : Prop := fnExactRetainedRow.holds Try.pinned (OpenSpec.ofChange fnExactRetainedSpec)

/-- ITS FALSE NEIGHBOUR: 'it returns false'. Refute it at one input. -/
def fnExactRetainedWrong : ChangeSpec := { name := "fnExactRetained", fn := fun _ => fun
  | [d] => { results := [.lit (.bool false)], args := [d] }
  | _ => none }
def FnExactRetainedWrongFalsely : Prop := fnExactRetainedRow.holds Try.pinned (OpenSpec.ofChange fnExactRetainedWrong)

/-- 'laws.FnExactRawFrom': WHATEVER THE INPUT: true; the input reads as it did. -/
def fnExactRawFromSpec : ChangeSpec := { name := "fnExactRawFrom", fn := fun _ => fun
  | [d] => { results := [.lit (.bool true)], args := [d] }
  | _ => none }
def fnExactRawFromRow : OpenClaim := { program := "ytmmakhnlibjhcaa", sum := "fd100a8b90012d0204eb8ee56d6005300d46f2e0c3863923cf504913809f4883", func := "loop.example/g00498/laws.FnExactRawFrom", spec := "fnExactRawFrom", apart := false }
def FnExactRawFromSaid : Prop := fnExactRawFromRow.holds Try.pinned (OpenSpec.ofChange fnExactRawFromSpec)

/-- ITS FALSE NEIGHBOUR: 'it returns false'. Refute it at one input. -/
def fnExactRawFromWrong : ChangeSpec := { name := "fnExactRawFrom", fn := fun _ => fun
  | [d] => { results := [.lit (.bool false)], args := [d] }
  | _ => none }
def FnExactRawFromWrongFalsely : Prop := fnExactRawFromRow.holds Try.pinned (OpenSpec.ofChange fnExactRawFromWrong)

/-- 'laws.FnExactSameDec': WHATEVER THE INPUT: true; the input reads as it did. -/
def fnExactSameDecSpec : ChangeSpec := { name := "fnExactSameDec", fn := fun _ => fun
  | [d1, d2] => { results := [.lit (.bool true)], args := [d1, d2] }
  | _ => none }
def fnExactSameDecRow : OpenClaim := { program := "ytmmakhnlibjhcaa", sum := "fd100a8b90012d0204eb8ee56d6005300d46f2e0c3863923cf504913809f4883", func := "loop.example/g00498/laws.FnExactSameDec", spec := "fnExactSameDec", unfollowed := true, recurses := true, apart := false }
def FnExactSameDecSaid : Prop := fnExactSameDecRow.holds Try.pinned (OpenSpec.ofChange fnExactSameDecSpec)

/-- ITS FALSE NEIGHBOUR: 'it returns false'. Refute it at one input. -/
def fnExactSameDecWrong : ChangeSpec := { name := "fnExactSameDec", fn := fun _ => fun
  | [d1, d2] => { results := [.lit (.bool false)], args := [d1, d2] }
  | _ => none }
def FnExactSameDecWrongFalsely : Prop := fnExactSameDecRow.holds Try.pinned (OpenSpec.ofChange fnExactSameDecWrong)

/-- 'laws.FnExactDecNew': WHATEVER THE INPUT: true; the input reads as it did. -/
def fnExactDecNewSpec : ChangeSpec := { name := "fnExactDecNew", fn := fun _ => fun
  | [d] => { results := [.lit (.bool true)], args := [d] }
  | _ => none }
def fnExactDecNewRow : OpenClaim := { program := "ytmmakhnlibjhcaa", sum := "fd100a8b90012d0204eb8ee56d6005300d46f2e0c3863923cf504913809f4883", func := "loop.example/g00498/laws.FnExactDecNew", spec := "fnExactDecNew", apart := false }
def FnExactDecNewSaid : Prop := fnExactDecNewRow.holds Try.pinned (OpenSpec.ofChange fnExactDecNewSpec)

/-- ITS FALSE NEIGHBOUR: 'it returns false'. Refute it at one input. -/
def fnExactDecNewWrong : ChangeSpec := { name := "fnExactDecNew", fn := fun _ => fun
  | [d] => { results := [.lit (.bool false)], args := [d] }
  | _ => none }
def FnExactDecNewWrongFalsely : Prop := fnExactDecNewRow.holds Try.pinned (OpenSpec.ofChange fnExactDecNewWrong)

/-- 'laws.FnExactDecOk': WHATEVER THE INPUT: true; the input reads as it did. -/
def fnExactDecOkSpec : ChangeSpec := { name := "fnExactDecOk", fn := fun _ => fun
  | [d] => { results := [.lit (.bool true)], args := [d] }
  | _ => none }
def fnExactDecOkRow : OpenClaim := { program := "ytmmakhnlibjhcaa", sum := "fd100a8b90012d0204eb8ee56d6005300d46f2e0c3863923cf504913809f4883", func := "loop.example/g00498/laws.FnExactDecOk", spec := "fnExactDecOk", unfollowed := true, recurses := true, apart := false }
def FnExactDecOkSaid : Prop := fnExactDecOkRow.holds Try.pinned (OpenSpec.ofChange fnExactDecOkSpec)

/-- ITS FALSE NEIGHBOUR: 'it returns false'. Refute it at one input. -/
def fnExactDecOkWrong : ChangeSpec := { name := "fnExactDecOk", fn := fun _ => fun
  | [d] => { results := [.lit (.bool false)], args := [d] }
  | _ => none }
def FnExactDecOkWrongFalsely : Prop := fnExactDecOkRow.holds Try.pinned (OpenSpec.ofChange fnExactDecOkWrong)

/-- 'laws.FnExactAtBoundary': WHATEVER THE INPUT: true; the input reads as it did. -/
def fnExactAtBoundarySpec : ChangeSpec := { name := "fnExactAtBoundary", fn := fun _ => fun
  | [d] => { results := [.lit (.bool true)], args := [d] }
  | _ => none }
def fnExactAtBoundaryRow : OpenClaim := { program := "ytmmakhnlibjhcaa", sum := "fd100a8b90012d0204eb8ee56d6005300d46f2e0c3863923cf504913809f4883", func := "loop.example/g00498/laws.FnExactAtBoundary", spec := "fnExactAtBoundary", unfollowed := true, recurses := true, apart := false }
def FnExactAtBoundarySaid : Prop := fnExactAtBoundaryRow.holds Try.pinned (OpenSpec.ofChange fnExactAtBoundarySpec)

/-- ITS FALSE NEIGHBOUR: 'it returns false'. Refute it at one input. -/
def fnExactAtBoundaryWrong : ChangeSpec := { name := "fnExactAtBoundary", fn := fun _ => fun
  | [d] => { results := [.lit (.bool false)], args := [d] }
  | _ => none }
def FnExactAtBoundaryWrongFalsely : Prop := fnExactAtBoundaryRow.holds Try.pinned (OpenSpec.ofChange fnExactAtBoundaryWrong)

/-- 'laws.FnExactLeftIn': WHATEVER THE INPUT: true; the input reads as it did. -/
def fnExactLeftInSpec : ChangeSpec := { name := "fnExactLeftIn", fn := fun _ => fun
  | [d] => { results := [.lit (.bool true)], args := [d] }
  | _ => none }
def fnExactLeftInRow : OpenClaim := { program := "ytmmakhnlibjhcaa", sum := "fd100a8b90012d0204eb8ee56d6005300d46f2e0c3863923cf504913809f4883", func := "loop.example/g00498/laws.FnExactLeftIn", spec := "fnExactLeftIn", unfollowed := true, recurses := true, apart := false }
def FnExactLeftInSaid : Prop := fnExactLeftInRow.holds Try.pinned (OpenSpec.ofChange fnExactLeftInSpec)

/-- ITS FALSE NEIGHBOUR: 'it returns false'. Refute it at one input. -/
def fnExactLeftInWrong : ChangeSpec := { name := "fnExactLeftIn", fn := fun _ => fun
  | [d] => { results := [.lit (.bool false)], args := [d] }
  | _ => none }
def FnExactLeftInWrongFalsely : Prop := fnExactLeftInRow.holds Try.pinned (OpenSpec.ofChange fnExactLeftInWrong)

/- THE SECOND FORM. 'bulk': how many values and letters a reading holds, each counted each time it is reached (what is shared counts as often as it is met; a slice's spare places count too). A statement '..UptoSaid' is the law's where the arguments, and the package variables that the reading takes, are together of bulk at most 1048576: NARROWER than '..Said'. Prove '..Said' where nothing that the law and all that it calls make is longer than what came in: it says more and counts as full. Else prove '..UptoSaid'. A law counts once. -/
mutual
def uptoBulk {H : Type} : DataW H → Nat
  | .lit (.string bytes) => bytes.length + 1
  | .lit _ => 1
  | .nil => 1
  | .ptr d => uptoBulk d + 1
  | .slice elems spare => uptoBulkAll elems + uptoBulkAll spare + 1
  | .agg parts => uptoBulkAll parts + 1
  | .iface _ d => uptoBulk d + 1
  | .map entries => uptoBulkEntries entries + 1
  | .held _ => 1
def uptoBulkAll {H : Type} : List (DataW H) → Nat
  | [] => 0
  | d :: r => uptoBulk d + uptoBulkAll r
def uptoBulkEntries {H : Type} : List (Lit × DataW H) → Nat
  | [] => 0
  | x :: r => uptoBulkEntry x + uptoBulkEntries r
def uptoBulkEntry {H : Type} : Lit × DataW H → Nat
  | (.string bytes, d) => bytes.length + uptoBulk d + 1
  | (_, d) => uptoBulk d + 1
 end
def uptoSmall : (H : Type) → List (DataW H) → Bool := fun _ ds => decide (uptoBulkAll ds ≤ 1048576)
def OpenSpec.upto (s : _root_.Go.ChangeSpec) : _root_.Go.OpenSpec := { _root_.Go.OpenSpec.ofChange s with cond := some uptoSmall }

/-- 'laws.FnExactShapeAt', WHERE WHAT IT READS IS OF BULK AT MOST 1048576: true; the input reads as it did. -/
def fnExactShapeAtUptoRow : OpenClaim := { program := "ytmmakhnlibjhcaa", sum := "fd100a8b90012d0204eb8ee56d6005300d46f2e0c3863923cf504913809f4883", func := "loop.example/g00498/laws.FnExactShapeAt", spec := "fnExactShapeAt", unfollowed := true, recurses := true, apart := false, narrowed := true }
def FnExactShapeAtUptoSaid : Prop := fnExactShapeAtUptoRow.holds Try.pinned (OpenSpec.upto fnExactShapeAtSpec)

/-- 'laws.FnExactFieldAt', WHERE WHAT IT READS IS OF BULK AT MOST 1048576: true; the input reads as it did. -/
def fnExactFieldAtUptoRow : OpenClaim := { program := "ytmmakhnlibjhcaa", sum := "fd100a8b90012d0204eb8ee56d6005300d46f2e0c3863923cf504913809f4883", func := "loop.example/g00498/laws.FnExactFieldAt", spec := "fnExactFieldAt", apart := false, narrowed := true }
def FnExactFieldAtUptoSaid : Prop := fnExactFieldAtUptoRow.holds Try.pinned (OpenSpec.upto fnExactFieldAtSpec)

/-- 'laws.FnExactSameSchema', WHERE WHAT IT READS IS OF BULK AT MOST 1048576: true; the input reads as it did. -/
def fnExactSameSchemaUptoRow : OpenClaim := { program := "ytmmakhnlibjhcaa", sum := "fd100a8b90012d0204eb8ee56d6005300d46f2e0c3863923cf504913809f4883", func := "loop.example/g00498/laws.FnExactSameSchema", spec := "fnExactSameSchema", unfollowed := true, recurses := true, apart := false, narrowed := true }
def FnExactSameSchemaUptoSaid : Prop := fnExactSameSchemaUptoRow.holds Try.pinned (OpenSpec.upto fnExactSameSchemaSpec)

/-- 'laws.FnExactSchemaOk', WHERE WHAT IT READS IS OF BULK AT MOST 1048576: true; the input reads as it did. -/
def fnExactSchemaOkUptoRow : OpenClaim := { program := "ytmmakhnlibjhcaa", sum := "fd100a8b90012d0204eb8ee56d6005300d46f2e0c3863923cf504913809f4883", func := "loop.example/g00498/laws.FnExactSchemaOk", spec := "fnExactSchemaOk", apart := false, narrowed := true }
def FnExactSchemaOkUptoSaid : Prop := fnExactSchemaOkUptoRow.holds Try.pinned (OpenSpec.upto fnExactSchemaOkSpec)

/-- 'laws.FnExactPlanOk', WHERE WHAT IT READS IS OF BULK AT MOST 1048576: true; the input reads as it did. -/
def fnExactPlanOkUptoRow : OpenClaim := { program := "ytmmakhnlibjhcaa", sum := "fd100a8b90012d0204eb8ee56d6005300d46f2e0c3863923cf504913809f4883", func := "loop.example/g00498/laws.FnExactPlanOk", spec := "fnExactPlanOk", apart := false, narrowed := true }
def FnExactPlanOkUptoSaid : Prop := fnExactPlanOkUptoRow.holds Try.pinned (OpenSpec.upto fnExactPlanOkSpec)

/-- 'laws.FnExactRetained', WHERE WHAT IT READS IS OF BULK AT MOST 1048576: true; the input reads as it did. -/
def fnExactRetainedUptoRow : OpenClaim := { program := "ytmmakhnlibjhcaa", sum := "fd100a8b90012d0204eb8ee56d6005300d46f2e0c3863923cf504913809f4883", func := "loop.example/g00498/laws.FnExactRetained", spec := "fnExactRetained", apart := false, narrowed := true }
def FnExactRetainedUptoSaid : Prop := fnExactRetainedUptoRow.holds Try.pinned (OpenSpec.upto fnExactRetainedSpec)

/-- 'laws.FnExactRawFrom', WHERE WHAT IT READS IS OF BULK AT MOST 1048576: true; the input reads as it did. -/
def fnExactRawFromUptoRow : OpenClaim := { program := "ytmmakhnlibjhcaa", sum := "fd100a8b90012d0204eb8ee56d6005300d46f2e0c3863923cf504913809f4883", func := "loop.example/g00498/laws.FnExactRawFrom", spec := "fnExactRawFrom", apart := false, narrowed := true }
def FnExactRawFromUptoSaid : Prop := fnExactRawFromUptoRow.holds Try.pinned (OpenSpec.upto fnExactRawFromSpec)

/-- 'laws.FnExactSameDec', WHERE WHAT IT READS IS OF BULK AT MOST 1048576: true; the input reads as it did. -/
def fnExactSameDecUptoRow : OpenClaim := { program := "ytmmakhnlibjhcaa", sum := "fd100a8b90012d0204eb8ee56d6005300d46f2e0c3863923cf504913809f4883", func := "loop.example/g00498/laws.FnExactSameDec", spec := "fnExactSameDec", unfollowed := true, recurses := true, apart := false, narrowed := true }
def FnExactSameDecUptoSaid : Prop := fnExactSameDecUptoRow.holds Try.pinned (OpenSpec.upto fnExactSameDecSpec)

/-- 'laws.FnExactDecNew', WHERE WHAT IT READS IS OF BULK AT MOST 1048576: true; the input reads as it did. -/
def fnExactDecNewUptoRow : OpenClaim := { program := "ytmmakhnlibjhcaa", sum := "fd100a8b90012d0204eb8ee56d6005300d46f2e0c3863923cf504913809f4883", func := "loop.example/g00498/laws.FnExactDecNew", spec := "fnExactDecNew", apart := false, narrowed := true }
def FnExactDecNewUptoSaid : Prop := fnExactDecNewUptoRow.holds Try.pinned (OpenSpec.upto fnExactDecNewSpec)

/-- 'laws.FnExactDecOk', WHERE WHAT IT READS IS OF BULK AT MOST 1048576: true; the input reads as it did. -/
def fnExactDecOkUptoRow : OpenClaim := { program := "ytmmakhnlibjhcaa", sum := "fd100a8b90012d0204eb8ee56d6005300d46f2e0c3863923cf504913809f4883", func := "loop.example/g00498/laws.FnExactDecOk", spec := "fnExactDecOk", unfollowed := true, recurses := true, apart := false, narrowed := true }
def FnExactDecOkUptoSaid : Prop := fnExactDecOkUptoRow.holds Try.pinned (OpenSpec.upto fnExactDecOkSpec)

/-- 'laws.FnExactAtBoundary', WHERE WHAT IT READS IS OF BULK AT MOST 1048576: true; the input reads as it did. -/
def fnExactAtBoundaryUptoRow : OpenClaim := { program := "ytmmakhnlibjhcaa", sum := "fd100a8b90012d0204eb8ee56d6005300d46f2e0c3863923cf504913809f4883", func := "loop.example/g00498/laws.FnExactAtBoundary", spec := "fnExactAtBoundary", unfollowed := true, recurses := true, apart := false, narrowed := true }
def FnExactAtBoundaryUptoSaid : Prop := fnExactAtBoundaryUptoRow.holds Try.pinned (OpenSpec.upto fnExactAtBoundarySpec)

/-- 'laws.FnExactLeftIn', WHERE WHAT IT READS IS OF BULK AT MOST 1048576: true; the input reads as it did. -/
def fnExactLeftInUptoRow : OpenClaim := { program := "ytmmakhnlibjhcaa", sum := "fd100a8b90012d0204eb8ee56d6005300d46f2e0c3863923cf504913809f4883", func := "loop.example/g00498/laws.FnExactLeftIn", spec := "fnExactLeftIn", unfollowed := true, recurses := true, apart := false, narrowed := true }
def FnExactLeftInUptoSaid : Prop := fnExactLeftInUptoRow.holds Try.pinned (OpenSpec.upto fnExactLeftInSpec)

end Rows
end Go.Proofs.Ytmmakhnlibjhcaa

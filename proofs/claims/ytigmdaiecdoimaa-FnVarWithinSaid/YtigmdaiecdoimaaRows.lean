/-
  No cell of these rows narrows 'for every input' (looked for: loops, veiled, ifaces, maps, wideKeys, modest, calm, conditions, laid).
  DERIVED. THE GIVEN ROWS OF THIS SEAT. 7 by the template 'for every input the law returns true; each argument reads behind the call as it read before'; 0 by the template 'total and deterministic' (their statements: YtigmdaiecdoimaaTotals.lean).
  GIVEN WITH THE SEED: the statements are not yours to turn. If you find one false, say at which input.
  Laid BY PROGRAM, IN A SANDBOX (cutbox-rows.mjs): the forced cells as the released guide's own fill.sh prints them over the translation 7d3706ffb65f2093… (all of the seat's roots in one cut). By AI agents, Wed Nov 11 2026. No macro, syntax, notation, axiom, sorry.
-/
import Derived.Test.YtigmdaiecdoimaaChecked
import GoSem.Claim
import GoSem.ClaimJoined
import GoSem.ClaimMapViews
import Derived.JoinedTies
import Derived.KernelRfl
namespace Go.Proofs.Ytigmdaiecdoimaa
/- THE CELL 'sum', in the pinned program and in every row, IS THE sha256 OF THE DUMP (.gsa) THAT YtigmdaiecdoimaaProg.lean LOADS. Nothing in Lean hashes anything: it is a label: what it is worth is what the hold of that sum in a sandbox is worth. -/
noncomputable def Try.pinned : Pinned := { name := "ytigmdaiecdoimaa", sum := "7d3706ffb65f209343c7479fd7d511f613ed8fb70ccfd0df3988cef33e13976e", checked := Try.checked }
namespace Rows
def none {H : Type} : Left H := { results := [], args := [] }

/-- 'laws.FnVarWithin': WHATEVER THE INPUT: true; the input reads as it did. -/
def fnVarWithinSpec : ChangeSpec := { name := "fnVarWithin", fn := fun _ => fun
  | [d] => { results := [.lit (.bool true)], args := [d] }
  | _ => none }
def fnVarWithinRow : OpenClaim := { program := "ytigmdaiecdoimaa", sum := "7d3706ffb65f209343c7479fd7d511f613ed8fb70ccfd0df3988cef33e13976e", func := "loop.example/g00498/laws.FnVarWithin", spec := "fnVarWithin", apart := false }
def FnVarWithinSaid : Prop := fnVarWithinRow.holds Try.pinned (OpenSpec.ofChange fnVarWithinSpec)

/-- ITS FALSE NEIGHBOUR: 'it returns false'. Refute it at one input. -/
def fnVarWithinWrong : ChangeSpec := { name := "fnVarWithin", fn := fun _ => fun
  | [d] => { results := [.lit (.bool false)], args := [d] }
  | _ => none }
def FnVarWithinWrongFalsely : Prop := fnVarWithinRow.holds Try.pinned (OpenSpec.ofChange fnVarWithinWrong)

/-- 'laws.FnShapes': WHATEVER THE INPUT: true; the input reads as it did. -/
def fnShapesSpec : ChangeSpec := { name := "fnShapes", fn := fun _ => fun
  | [d] => { results := [.lit (.bool true)], args := [d] }
  | _ => none }
def fnShapesRow : OpenClaim := { program := "ytigmdaiecdoimaa", sum := "7d3706ffb65f209343c7479fd7d511f613ed8fb70ccfd0df3988cef33e13976e", func := "loop.example/g00498/laws.FnShapes", spec := "fnShapes", unfollowed := true, recurses := true, apart := false }
def FnShapesSaid : Prop := fnShapesRow.holds Try.pinned (OpenSpec.ofChange fnShapesSpec)

/-- ITS FALSE NEIGHBOUR: 'it returns false'. Refute it at one input. -/
def fnShapesWrong : ChangeSpec := { name := "fnShapes", fn := fun _ => fun
  | [d] => { results := [.lit (.bool false)], args := [d] }
  | _ => none }
def FnShapesWrongFalsely : Prop := fnShapesRow.holds Try.pinned (OpenSpec.ofChange fnShapesWrong)

/-- 'laws.FnExactRawFrom': WHATEVER THE INPUT: true; the input reads as it did. -/
def fnExactRawFromSpec : ChangeSpec := { name := "fnExactRawFrom", fn := fun _ => fun
  | [d] => { results := [.lit (.bool true)], args := [d] }
  | _ => none }
def fnExactRawFromRow : OpenClaim := { program := "ytigmdaiecdoimaa", sum := "7d3706ffb65f209343c7479fd7d511f613ed8fb70ccfd0df3988cef33e13976e", func := "loop.example/g00498/laws.FnExactRawFrom", spec := "fnExactRawFrom", apart := false }
def FnExactRawFromSaid : Prop := fnExactRawFromRow.holds Try.pinned (OpenSpec.ofChange fnExactRawFromSpec)

/-- ITS FALSE NEIGHBOUR: 'it returns false'. Refute it at one input. -/
def fnExactRawFromWrong : ChangeSpec := { name := "fnExactRawFrom", fn := fun _ => fun
  | [d] => { results := [.lit (.bool false)], args := [d] }
  | _ => none }
def FnExactRawFromWrongFalsely : Prop := fnExactRawFromRow.holds Try.pinned (OpenSpec.ofChange fnExactRawFromWrong)

/-- 'laws.FnNew': WHATEVER THE INPUT: true; the input reads as it did. -/
def fnNewSpec : ChangeSpec := { name := "fnNew", fn := fun _ => fun
  | [d] => { results := [.lit (.bool true)], args := [d] }
  | _ => none }
def fnNewRow : OpenClaim := { program := "ytigmdaiecdoimaa", sum := "7d3706ffb65f209343c7479fd7d511f613ed8fb70ccfd0df3988cef33e13976e", func := "loop.example/g00498/laws.FnNew", spec := "fnNew", unfollowed := true, recurses := true, apart := false }
def FnNewSaid : Prop := fnNewRow.holds Try.pinned (OpenSpec.ofChange fnNewSpec)

/-- ITS FALSE NEIGHBOUR: 'it returns false'. Refute it at one input. -/
def fnNewWrong : ChangeSpec := { name := "fnNew", fn := fun _ => fun
  | [d] => { results := [.lit (.bool false)], args := [d] }
  | _ => none }
def FnNewWrongFalsely : Prop := fnNewRow.holds Try.pinned (OpenSpec.ofChange fnNewWrong)

/-- 'laws.FnExactSettle': WHATEVER THE INPUT: true; the input reads as it did. -/
def fnExactSettleSpec : ChangeSpec := { name := "fnExactSettle", fn := fun _ => fun
  | [d] => { results := [.lit (.bool true)], args := [d] }
  | _ => none }
def fnExactSettleRow : OpenClaim := { program := "ytigmdaiecdoimaa", sum := "7d3706ffb65f209343c7479fd7d511f613ed8fb70ccfd0df3988cef33e13976e", func := "loop.example/g00498/laws.FnExactSettle", spec := "fnExactSettle", unfollowed := true, recurses := true, apart := false }
def FnExactSettleSaid : Prop := fnExactSettleRow.holds Try.pinned (OpenSpec.ofChange fnExactSettleSpec)

/-- ITS FALSE NEIGHBOUR: 'it returns false'. Refute it at one input. -/
def fnExactSettleWrong : ChangeSpec := { name := "fnExactSettle", fn := fun _ => fun
  | [d] => { results := [.lit (.bool false)], args := [d] }
  | _ => none }
def FnExactSettleWrongFalsely : Prop := fnExactSettleRow.holds Try.pinned (OpenSpec.ofChange fnExactSettleWrong)

/-- 'laws.FnExactFrameStep': WHATEVER THE INPUT: true; the input reads as it did. -/
def fnExactFrameStepSpec : ChangeSpec := { name := "fnExactFrameStep", fn := fun _ => fun
  | [d1, d2] => { results := [.lit (.bool true)], args := [d1, d2] }
  | _ => none }
def fnExactFrameStepRow : OpenClaim := { program := "ytigmdaiecdoimaa", sum := "7d3706ffb65f209343c7479fd7d511f613ed8fb70ccfd0df3988cef33e13976e", func := "loop.example/g00498/laws.FnExactFrameStep", spec := "fnExactFrameStep", unfollowed := true, recurses := true, apart := false }
def FnExactFrameStepSaid : Prop := fnExactFrameStepRow.holds Try.pinned (OpenSpec.ofChange fnExactFrameStepSpec)

/-- ITS FALSE NEIGHBOUR: 'it returns false'. Refute it at one input. -/
def fnExactFrameStepWrong : ChangeSpec := { name := "fnExactFrameStep", fn := fun _ => fun
  | [d1, d2] => { results := [.lit (.bool false)], args := [d1, d2] }
  | _ => none }
def FnExactFrameStepWrongFalsely : Prop := fnExactFrameStepRow.holds Try.pinned (OpenSpec.ofChange fnExactFrameStepWrong)

/-- 'laws.FnExactLenStep': WHATEVER THE INPUT: true; the input reads as it did. -/
def fnExactLenStepSpec : ChangeSpec := { name := "fnExactLenStep", fn := fun _ => fun
  | [d1, d2] => { results := [.lit (.bool true)], args := [d1, d2] }
  | _ => none }
def fnExactLenStepRow : OpenClaim := { program := "ytigmdaiecdoimaa", sum := "7d3706ffb65f209343c7479fd7d511f613ed8fb70ccfd0df3988cef33e13976e", func := "loop.example/g00498/laws.FnExactLenStep", spec := "fnExactLenStep", unfollowed := true, recurses := true, apart := false }
def FnExactLenStepSaid : Prop := fnExactLenStepRow.holds Try.pinned (OpenSpec.ofChange fnExactLenStepSpec)

/-- ITS FALSE NEIGHBOUR: 'it returns false'. Refute it at one input. -/
def fnExactLenStepWrong : ChangeSpec := { name := "fnExactLenStep", fn := fun _ => fun
  | [d1, d2] => { results := [.lit (.bool false)], args := [d1, d2] }
  | _ => none }
def FnExactLenStepWrongFalsely : Prop := fnExactLenStepRow.holds Try.pinned (OpenSpec.ofChange fnExactLenStepWrong)

/- THE SECOND FORM. 'bulk': how many values and letters a reading holds, each counted each time it is reached (what is shared counts as often as it is met; a slice's spare places count too). A statement '..UptoSaid' is the law's where the arguments, and the package variables that the reading takes, are together of bulk at most 1048576: NARROWER than '..Said'. Prove '..Said' where nothing that the law and all that it calls make is longer than what came in: it says more and counts as full. Else prove '..UptoSaid'. A law counts once. -/
mutual
def uptoBulk {H : Type} : DataW H → Nat
  | .lit (.string bytes) => bytes.length + 1
  | .lit _ => 1
  | .nil => 1
  | .ptr d => uptoBulk d + 1
  | .slice elems spare => uptoBulkAll elems + uptoBulkAll spare + 1
  | .agg parts => uptoBulkAll parts + 1
  | .iface _ d => uptoBulk d + 1
  | .map entries => uptoBulkEntries entries + 1
  | .held _ => 1
def uptoBulkAll {H : Type} : List (DataW H) → Nat
  | [] => 0
  | d :: r => uptoBulk d + uptoBulkAll r
def uptoBulkEntries {H : Type} : List (Lit × DataW H) → Nat
  | [] => 0
  | x :: r => uptoBulkEntry x + uptoBulkEntries r
def uptoBulkEntry {H : Type} : Lit × DataW H → Nat
  | (.string bytes, d) => bytes.length + uptoBulk d + 1
  | (_, d) => uptoBulk d + 1
 end
def uptoSmall : (H : Type) → List (DataW H) → Bool := fun _ ds => decide (uptoBulkAll ds ≤ 1048576)
def OpenSpec.upto (s : _root_.Go.ChangeSpec) : _root_.Go.OpenSpec := { _root_.Go.OpenSpec.ofChange s with cond := some uptoSmall }

/-- 'laws.FnVarWithin', WHERE WHAT IT READS IS OF BULK AT MOST 1048576: true; the input reads as it did. -/
def fnVarWithinUptoRow : OpenClaim := { program := "ytigmdaiecdoimaa", sum := "7d3706ffb65f209343c7479fd7d511f613ed8fb70ccfd0df3988cef33e13976e", func := "loop.example/g00498/laws.FnVarWithin", spec := "fnVarWithin", apart := false, narrowed := true }
def FnVarWithinUptoSaid : Prop := fnVarWithinUptoRow.holds Try.pinned (OpenSpec.upto fnVarWithinSpec)

/-- 'laws.FnShapes', WHERE WHAT IT READS IS OF BULK AT MOST 1048576: true; the input reads as it did. -/
def fnShapesUptoRow : OpenClaim := { program := "ytigmdaiecdoimaa", sum := "7d3706ffb65f209343c7479fd7d511f613ed8fb70ccfd0df3988cef33e13976e", func := "loop.example/g00498/laws.FnShapes", spec := "fnShapes", unfollowed := true, recurses := true, apart := false, narrowed := true }
def FnShapesUptoSaid : Prop := fnShapesUptoRow.holds Try.pinned (OpenSpec.upto fnShapesSpec)

/-- 'laws.FnExactRawFrom', WHERE WHAT IT READS IS OF BULK AT MOST 1048576: true; the input reads as it did. -/
def fnExactRawFromUptoRow : OpenClaim := { program := "ytigmdaiecdoimaa", sum := "7d3706ffb65f209343c7479fd7d511f613ed8fb70ccfd0df3988cef33e13976e", func := "loop.example/g00498/laws.FnExactRawFrom", spec := "fnExactRawFrom", apart := false, narrowed := true }
def FnExactRawFromUptoSaid : Prop := fnExactRawFromUptoRow.holds Try.pinned (OpenSpec.upto fnExactRawFromSpec)

/-- 'laws.FnNew', WHERE WHAT IT READS IS OF BULK AT MOST 1048576: true; the input reads as it did. -/
def fnNewUptoRow : OpenClaim := { program := "ytigmdaiecdoimaa", sum := "7d3706ffb65f209343c7479fd7d511f613ed8fb70ccfd0df3988cef33e13976e", func := "loop.example/g00498/laws.FnNew", spec := "fnNew", unfollowed := true, recurses := true, apart := false, narrowed := true }
def FnNewUptoSaid : Prop := fnNewUptoRow.holds Try.pinned (OpenSpec.upto fnNewSpec)

/-- 'laws.FnExactSettle', WHERE WHAT IT READS IS OF BULK AT MOST 1048576: true; the input reads as it did. -/
def fnExactSettleUptoRow : OpenClaim := { program := "ytigmdaiecdoimaa", sum := "7d3706ffb65f209343c7479fd7d511f613ed8fb70ccfd0df3988cef33e13976e", func := "loop.example/g00498/laws.FnExactSettle", spec := "fnExactSettle", unfollowed := true, recurses := true, apart := false, narrowed := true }
def FnExactSettleUptoSaid : Prop := fnExactSettleUptoRow.holds Try.pinned (OpenSpec.upto fnExactSettleSpec)

/-- 'laws.FnExactFrameStep', WHERE WHAT IT READS IS OF BULK AT MOST 1048576: true; the input reads as it did. -/
def fnExactFrameStepUptoRow : OpenClaim := { program := "ytigmdaiecdoimaa", sum := "7d3706ffb65f209343c7479fd7d511f613ed8fb70ccfd0df3988cef33e13976e", func := "loop.example/g00498/laws.FnExactFrameStep", spec := "fnExactFrameStep", unfollowed := true, recurses := true, apart := false, narrowed := true }
def FnExactFrameStepUptoSaid : Prop := fnExactFrameStepUptoRow.holds Try.pinned (OpenSpec.upto fnExactFrameStepSpec)

/-- 'laws.FnExactLenStep', WHERE WHAT IT READS IS OF BULK AT MOST 1048576: true; the input reads as it did. -/
def fnExactLenStepUptoRow : OpenClaim := { program := "ytigmdaiecdoimaa", sum := "7d3706ffb65f209343c7479fd7d511f613ed8fb70ccfd0df3988cef33e13976e", func := "loop.example/g00498/laws.FnExactLenStep", spec := "fnExactLenStep", unfollowed := true, recurses := true, apart := false, narrowed := true }
def FnExactLenStepUptoSaid : Prop := fnExactLenStepUptoRow.holds Try.pinned (OpenSpec.upto fnExactLenStepSpec)

end Rows
end Go.Proofs.Ytigmdaiecdoimaa

/-
  No cell of these rows narrows 'for every input' (looked for: loops, veiled, ifaces, maps, wideKeys, modest, calm, conditions, laid).
  DERIVED. THE GIVEN ROWS OF THIS SEAT. 5 by the template 'for every input the law returns true; each argument reads behind the call as it read before'; 0 by the template 'total and deterministic' (their statements: YtabdjimjelfbfaaGreatTotals.lean).
  GIVEN WITH THE SEED: the statements are not yours to turn. If you find one false, say at which input.
  Laid BY PROGRAM, IN A SANDBOX (cutbox-rows.mjs): the forced cells as the released guide's own fill.sh prints them over the translation b29a8f4792d12d44… (all of the seat's roots in one cut). By AI agents, Wed Nov 11 2026. No macro, syntax, notation, axiom, sorry.
-/
import Derived.Test.YtabdjimjelfbfaaGreatChecked
import GoSem.Claim
import GoSem.ClaimJoined
import GoSem.ClaimMapViews
import Derived.JoinedTies
import Derived.KernelRfl
namespace Go.Proofs.YtabdjimjelfbfaaGreat
/- THE CELL 'sum', in the pinned program and in every row, IS THE sha256 OF THE DUMP (.gsa) THAT YtabdjimjelfbfaaGreatProg.lean LOADS. Nothing in Lean hashes anything: it is a label: what it is worth is what the hold of that sum in a sandbox is worth. -/
noncomputable def Tryz.pinned : Pinned := { name := "ytabdjimjelfbfaagreat", sum := "b29a8f4792d12d44e0ada11cf0cad7e39a6366e2f1221737bb9e75868fa75deb", checked := Tryz.checked }
namespace Rows
def none {H : Type} : Left H := { results := [], args := [] }

/-- 'laws.FnFails': WHATEVER THE INPUT: true; the input reads as it did. -/
def fnFailsSpec : ChangeSpec := { name := "fnFails", fn := fun _ => fun
  | [d] => { results := [.lit (.bool true)], args := [d] }
  | _ => none }
def fnFailsRow : OpenClaim := { program := "ytabdjimjelfbfaagreat", sum := "b29a8f4792d12d44e0ada11cf0cad7e39a6366e2f1221737bb9e75868fa75deb", func := "loop.example/g00498/laws.FnFails", spec := "fnFails", unfollowed := true, recurses := true, apart := false }
def FnFailsSaid : Prop := fnFailsRow.holds Tryz.pinned (OpenSpec.ofChange fnFailsSpec)

/-- ITS FALSE NEIGHBOUR: 'it returns false'. Refute it at one input. -/
def fnFailsWrong : ChangeSpec := { name := "fnFails", fn := fun _ => fun
  | [d] => { results := [.lit (.bool false)], args := [d] }
  | _ => none }
def FnFailsWrongFalsely : Prop := fnFailsRow.holds Tryz.pinned (OpenSpec.ofChange fnFailsWrong)

/-- 'laws.FnFrameStep': WHATEVER THE INPUT: true; the input reads as it did. -/
def fnFrameStepSpec : ChangeSpec := { name := "fnFrameStep", fn := fun _ => fun
  | [d] => { results := [.lit (.bool true)], args := [d] }
  | _ => none }
def fnFrameStepRow : OpenClaim := { program := "ytabdjimjelfbfaagreat", sum := "b29a8f4792d12d44e0ada11cf0cad7e39a6366e2f1221737bb9e75868fa75deb", func := "loop.example/g00498/laws.FnFrameStep", spec := "fnFrameStep", unfollowed := true, recurses := true, apart := false }
def FnFrameStepSaid : Prop := fnFrameStepRow.holds Tryz.pinned (OpenSpec.ofChange fnFrameStepSpec)

/-- ITS FALSE NEIGHBOUR: 'it returns false'. Refute it at one input. -/
def fnFrameStepWrong : ChangeSpec := { name := "fnFrameStep", fn := fun _ => fun
  | [d] => { results := [.lit (.bool false)], args := [d] }
  | _ => none }
def FnFrameStepWrongFalsely : Prop := fnFrameStepRow.holds Tryz.pinned (OpenSpec.ofChange fnFrameStepWrong)

/-- 'laws.FnSettle': WHATEVER THE INPUT: true; the input reads as it did. -/
def fnSettleSpec : ChangeSpec := { name := "fnSettle", fn := fun _ => fun
  | [d] => { results := [.lit (.bool true)], args := [d] }
  | _ => none }
def fnSettleRow : OpenClaim := { program := "ytabdjimjelfbfaagreat", sum := "b29a8f4792d12d44e0ada11cf0cad7e39a6366e2f1221737bb9e75868fa75deb", func := "loop.example/g00498/laws.FnSettle", spec := "fnSettle", unfollowed := true, recurses := true, apart := false }
def FnSettleSaid : Prop := fnSettleRow.holds Tryz.pinned (OpenSpec.ofChange fnSettleSpec)

/-- ITS FALSE NEIGHBOUR: 'it returns false'. Refute it at one input. -/
def fnSettleWrong : ChangeSpec := { name := "fnSettle", fn := fun _ => fun
  | [d] => { results := [.lit (.bool false)], args := [d] }
  | _ => none }
def FnSettleWrongFalsely : Prop := fnSettleRow.holds Tryz.pinned (OpenSpec.ofChange fnSettleWrong)

/-- 'laws.FnTagStep': WHATEVER THE INPUT: true; the input reads as it did. -/
def fnTagStepSpec : ChangeSpec := { name := "fnTagStep", fn := fun _ => fun
  | [d] => { results := [.lit (.bool true)], args := [d] }
  | _ => none }
def fnTagStepRow : OpenClaim := { program := "ytabdjimjelfbfaagreat", sum := "b29a8f4792d12d44e0ada11cf0cad7e39a6366e2f1221737bb9e75868fa75deb", func := "loop.example/g00498/laws.FnTagStep", spec := "fnTagStep", unfollowed := true, recurses := true, apart := false }
def FnTagStepSaid : Prop := fnTagStepRow.holds Tryz.pinned (OpenSpec.ofChange fnTagStepSpec)

/-- ITS FALSE NEIGHBOUR: 'it returns false'. Refute it at one input. -/
def fnTagStepWrong : ChangeSpec := { name := "fnTagStep", fn := fun _ => fun
  | [d] => { results := [.lit (.bool false)], args := [d] }
  | _ => none }
def FnTagStepWrongFalsely : Prop := fnTagStepRow.holds Tryz.pinned (OpenSpec.ofChange fnTagStepWrong)

/-- 'laws.FnFinish': WHATEVER THE INPUT: true; the input reads as it did. -/
def fnFinishSpec : ChangeSpec := { name := "fnFinish", fn := fun _ => fun
  | [d] => { results := [.lit (.bool true)], args := [d] }
  | _ => none }
def fnFinishRow : OpenClaim := { program := "ytabdjimjelfbfaagreat", sum := "b29a8f4792d12d44e0ada11cf0cad7e39a6366e2f1221737bb9e75868fa75deb", func := "loop.example/g00498/laws.FnFinish", spec := "fnFinish", unfollowed := true, recurses := true, apart := false }
def FnFinishSaid : Prop := fnFinishRow.holds Tryz.pinned (OpenSpec.ofChange fnFinishSpec)

/-- ITS FALSE NEIGHBOUR: 'it returns false'. Refute it at one input. -/
def fnFinishWrong : ChangeSpec := { name := "fnFinish", fn := fun _ => fun
  | [d] => { results := [.lit (.bool false)], args := [d] }
  | _ => none }
def FnFinishWrongFalsely : Prop := fnFinishRow.holds Tryz.pinned (OpenSpec.ofChange fnFinishWrong)

/- THE SECOND FORM. 'bulk': how many values and letters a reading holds, each counted each time it is reached (what is shared counts as often as it is met; a slice's spare places count too). A statement '..UptoSaid' is the law's where the arguments, and the package variables that the reading takes, are together of bulk at most 1048576: NARROWER than '..Said'. Prove '..Said' where nothing that the law and all that it calls make is longer than what came in: it says more and counts as full. Else prove '..UptoSaid'. A law counts once. -/
mutual
def uptoBulk {H : Type} : DataW H → Nat
  | .lit (.string bytes) => bytes.length + 1
  | .lit _ => 1
  | .nil => 1
  | .ptr d => uptoBulk d + 1
  | .slice elems spare => uptoBulkAll elems + uptoBulkAll spare + 1
  | .agg parts => uptoBulkAll parts + 1
  | .iface _ d => uptoBulk d + 1
  | .map entries => uptoBulkEntries entries + 1
  | .held _ => 1
def uptoBulkAll {H : Type} : List (DataW H) → Nat
  | [] => 0
  | d :: r => uptoBulk d + uptoBulkAll r
def uptoBulkEntries {H : Type} : List (Lit × DataW H) → Nat
  | [] => 0
  | x :: r => uptoBulkEntry x + uptoBulkEntries r
def uptoBulkEntry {H : Type} : Lit × DataW H → Nat
  | (.string bytes, d) => bytes.length + uptoBulk d + 1
  | (_, d) => uptoBulk d + 1
 end
def uptoSmall : (H : Type) → List (DataW H) → Bool := fun _ ds => decide (uptoBulkAll ds ≤ 1048576)
def OpenSpec.upto (s : _root_.Go.ChangeSpec) : _root_.Go.OpenSpec := { _root_.Go.OpenSpec.ofChange s with cond := some uptoSmall }

/-- 'laws.FnFails', WHERE WHAT IT READS IS OF BULK AT MOST 1048576: true; the input reads as it did. -/
def fnFailsUptoRow : OpenClaim := { program := "ytabdjimjelfbfaagreat", sum := "b29a8f4792d12d44e0ada11cf0cad7e39a6366e2f1221737bb9e75868fa75deb", func := "loop.example/g00498/laws.FnFails", spec := "fnFails", unfollowed := true, recurses := true, apart := false, narrowed := true }
def FnFailsUptoSaid : Prop := fnFailsUptoRow.holds Tryz.pinned (OpenSpec.upto fnFailsSpec)

/-- 'laws.FnFrameStep', WHERE WHAT IT READS IS OF BULK AT MOST 1048576: true; the input reads as it did. -/
def fnFrameStepUptoRow : OpenClaim := { program := "ytabdjimjelfbfaagreat", sum := "b29a8f4792d12d44e0ada11cf0cad7e39a6366e2f1221737bb9e75868fa75deb", func := "loop.example/g00498/laws.FnFrameStep", spec := "fnFrameStep", unfollowed := true, recurses := true, apart := false, narrowed := true }
def FnFrameStepUptoSaid : Prop := fnFrameStepUptoRow.holds Tryz.pinned (OpenSpec.upto fnFrameStepSpec)

/-- 'laws.FnSettle', WHERE WHAT IT READS IS OF BULK AT MOST 1048576: true; the input reads as it did. -/
def fnSettleUptoRow : OpenClaim := { program := "ytabdjimjelfbfaagreat", sum := "b29a8f4792d12d44e0ada11cf0cad7e39a6366e2f1221737bb9e75868fa75deb", func := "loop.example/g00498/laws.FnSettle", spec := "fnSettle", unfollowed := true, recurses := true, apart := false, narrowed := true }
def FnSettleUptoSaid : Prop := fnSettleUptoRow.holds Tryz.pinned (OpenSpec.upto fnSettleSpec)

/-- 'laws.FnTagStep', WHERE WHAT IT READS IS OF BULK AT MOST 1048576: true; the input reads as it did. -/
def fnTagStepUptoRow : OpenClaim := { program := "ytabdjimjelfbfaagreat", sum := "b29a8f4792d12d44e0ada11cf0cad7e39a6366e2f1221737bb9e75868fa75deb", func := "loop.example/g00498/laws.FnTagStep", spec := "fnTagStep", unfollowed := true, recurses := true, apart := false, narrowed := true }
def FnTagStepUptoSaid : Prop := fnTagStepUptoRow.holds Tryz.pinned (OpenSpec.upto fnTagStepSpec)

/-- 'laws.FnFinish', WHERE WHAT IT READS IS OF BULK AT MOST 1048576: true; the input reads as it did. -/
def fnFinishUptoRow : OpenClaim := { program := "ytabdjimjelfbfaagreat", sum := "b29a8f4792d12d44e0ada11cf0cad7e39a6366e2f1221737bb9e75868fa75deb", func := "loop.example/g00498/laws.FnFinish", spec := "fnFinish", unfollowed := true, recurses := true, apart := false, narrowed := true }
def FnFinishUptoSaid : Prop := fnFinishUptoRow.holds Tryz.pinned (OpenSpec.upto fnFinishSpec)

end Rows
end Go.Proofs.YtabdjimjelfbfaaGreat

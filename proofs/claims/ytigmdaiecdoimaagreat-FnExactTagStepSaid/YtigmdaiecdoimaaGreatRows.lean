/-
  No cell of these rows narrows 'for every input' (looked for: loops, veiled, ifaces, maps, wideKeys, modest, calm, conditions, laid).
  DERIVED. THE GIVEN ROWS OF THIS SEAT. 3 by the template 'for every input the law returns true; each argument reads behind the call as it read before'; 0 by the template 'total and deterministic' (their statements: YtigmdaiecdoimaaGreatTotals.lean).
  GIVEN WITH THE SEED: the statements are not yours to turn. If you find one false, say at which input.
  Laid BY PROGRAM, IN A SANDBOX (cutbox-rows.mjs): the forced cells as the released guide's own fill.sh prints them over the translation 55171b9dea43e8be… (all of the seat's roots in one cut). By AI agents, Wed Nov 11 2026. No macro, syntax, notation, axiom, sorry.
-/
import Derived.Test.YtigmdaiecdoimaaGreatChecked
import GoSem.Claim
import GoSem.ClaimJoined
import GoSem.ClaimMapViews
import Derived.JoinedTies
import Derived.KernelRfl
namespace Go.Proofs.YtigmdaiecdoimaaGreat
/- THE CELL 'sum', in the pinned program and in every row, IS THE sha256 OF THE DUMP (.gsa) THAT YtigmdaiecdoimaaGreatProg.lean LOADS. Nothing in Lean hashes anything: it is a label: what it is worth is what the hold of that sum in a sandbox is worth. -/
noncomputable def Tryz.pinned : Pinned := { name := "ytigmdaiecdoimaagreat", sum := "55171b9dea43e8bef85bebe61ed143f8be816726e33f6bd8d7ddfd59b65d068e", checked := Tryz.checked }
namespace Rows
def none {H : Type} : Left H := { results := [], args := [] }

/-- 'laws.FnExactTagStep': WHATEVER THE INPUT: true; the input reads as it did. -/
def fnExactTagStepSpec : ChangeSpec := { name := "fnExactTagStep", fn := fun _ => fun
  | [d1, d2] => { results := [.lit (.bool true)], args := [d1, d2] }
  | _ => none }
def fnExactTagStepRow : OpenClaim := { program := "ytigmdaiecdoimaagreat", sum := "55171b9dea43e8bef85bebe61ed143f8be816726e33f6bd8d7ddfd59b65d068e", func := "loop.example/g00498/laws.FnExactTagStep", spec := "fnExactTagStep", unfollowed := true, recurses := true, apart := false }
def FnExactTagStepSaid : Prop := fnExactTagStepRow.holds Tryz.pinned (OpenSpec.ofChange fnExactTagStepSpec)

/-- ITS FALSE NEIGHBOUR: 'it returns false'. Refute it at one input. -/
def fnExactTagStepWrong : ChangeSpec := { name := "fnExactTagStep", fn := fun _ => fun
  | [d1, d2] => { results := [.lit (.bool false)], args := [d1, d2] }
  | _ => none }
def FnExactTagStepWrongFalsely : Prop := fnExactTagStepRow.holds Tryz.pinned (OpenSpec.ofChange fnExactTagStepWrong)

/-- 'laws.FnFrameStep': WHATEVER THE INPUT: true; the input reads as it did. -/
def fnFrameStepSpec : ChangeSpec := { name := "fnFrameStep", fn := fun _ => fun
  | [d] => { results := [.lit (.bool true)], args := [d] }
  | _ => none }
def fnFrameStepRow : OpenClaim := { program := "ytigmdaiecdoimaagreat", sum := "55171b9dea43e8bef85bebe61ed143f8be816726e33f6bd8d7ddfd59b65d068e", func := "loop.example/g00498/laws.FnFrameStep", spec := "fnFrameStep", unfollowed := true, recurses := true, apart := false }
def FnFrameStepSaid : Prop := fnFrameStepRow.holds Tryz.pinned (OpenSpec.ofChange fnFrameStepSpec)

/-- ITS FALSE NEIGHBOUR: 'it returns false'. Refute it at one input. -/
def fnFrameStepWrong : ChangeSpec := { name := "fnFrameStep", fn := fun _ => fun
  | [d] => { results := [.lit (.bool false)], args := [d] }
  | _ => none }
def FnFrameStepWrongFalsely : Prop := fnFrameStepRow.holds Tryz.pinned (OpenSpec.ofChange fnFrameStepWrong)

/-- 'laws.FnSettle': WHATEVER THE INPUT: true; the input reads as it did. -/
def fnSettleSpec : ChangeSpec := { name := "fnSettle", fn := fun _ => fun
  | [d] => { results := [.lit (.bool true)], args := [d] }
  | _ => none }
def fnSettleRow : OpenClaim := { program := "ytigmdaiecdoimaagreat", sum := "55171b9dea43e8bef85bebe61ed143f8be816726e33f6bd8d7ddfd59b65d068e", func := "loop.example/g00498/laws.FnSettle", spec := "fnSettle", unfollowed := true, recurses := true, apart := false }
def FnSettleSaid : Prop := fnSettleRow.holds Tryz.pinned (OpenSpec.ofChange fnSettleSpec)

/-- ITS FALSE NEIGHBOUR: 'it returns false'. Refute it at one input. -/
def fnSettleWrong : ChangeSpec := { name := "fnSettle", fn := fun _ => fun
  | [d] => { results := [.lit (.bool false)], args := [d] }
  | _ => none }
def FnSettleWrongFalsely : Prop := fnSettleRow.holds Tryz.pinned (OpenSpec.ofChange fnSettleWrong)

/- THE SECOND FORM. 'bulk': how many values and letters a reading holds, each counted each time it is reached (what is shared counts as often as it is met; a slice's spare places count too). A statement '..UptoSaid' is the law's where the arguments, and the package variables that the reading takes, are together of bulk at most 1048576: NARROWER than '..Said'. Prove '..Said' where nothing that the law and all that it calls make is longer than what came in: it says more and counts as full. Else prove '..UptoSaid'. A law counts once. -/
mutual
def uptoBulk {H : Type} : DataW H → Nat
  | .lit (.string bytes) => bytes.length + 1
  | .lit _ => 1
  | .nil => 1
  | .ptr d => uptoBulk d + 1
  | .slice elems spare => uptoBulkAll elems + uptoBulkAll spare + 1
  | .agg parts => uptoBulkAll parts + 1
  | .iface _ d => uptoBulk d + 1
  | .map entries => uptoBulkEntries entries + 1
  | .held _ => 1
def uptoBulkAll {H : Type} : List (DataW H) → Nat
  | [] => 0
  | d :: r => uptoBulk d + uptoBulkAll r
def uptoBulkEntries {H : Type} : List (Lit × DataW H) → Nat
  | [] => 0
  | x :: r => uptoBulkEntry x + uptoBulkEntries r
def uptoBulkEntry {H : Type} : Lit × DataW H → Nat
  | (.string bytes, d) => bytes.length + uptoBulk d + 1
  | (_, d) => uptoBulk d + 1
 end
def uptoSmall : (H : Type) → List (DataW H) → Bool := fun _ ds => decide (uptoBulkAll ds ≤ 1048576)
def OpenSpec.upto (s : _root_.Go.ChangeSpec) : _root_.Go.OpenSpec := { _root_.Go.OpenSpec.ofChange s with cond := some uptoSmall }

/-- 'laws.FnExactTagStep', WHERE WHAT IT READS IS OF BULK AT MOST 1048576: true; the input reads as it did. -/
def fnExactTagStepUptoRow : OpenClaim := { program := "ytigmdaiecdoimaagreat", sum := "55171b9dea43e8bef85bebe61ed143f8be816726e33f6bd8d7ddfd59b65d068e", func := "loop.example/g00498/laws.FnExactTagStep", spec := "fnExactTagStep", unfollowed := true, recurses := true, apart := false, narrowed := true }
def FnExactTagStepUptoSaid : Prop := fnExactTagStepUptoRow.holds Tryz.pinned (OpenSpec.upto fnExactTagStepSpec)

/-- 'laws.FnFrameStep', WHERE WHAT IT READS IS OF BULK AT MOST 1048576: true; the input reads as it did. -/
def fnFrameStepUptoRow : OpenClaim := { program := "ytigmdaiecdoimaagreat", sum := "55171b9dea43e8bef85bebe61ed143f8be816726e33f6bd8d7ddfd59b65d068e", func := "loop.example/g00498/laws.FnFrameStep", spec := "fnFrameStep", unfollowed := true, recurses := true, apart := false, narrowed := true }
def FnFrameStepUptoSaid : Prop := fnFrameStepUptoRow.holds Tryz.pinned (OpenSpec.upto fnFrameStepSpec)

/-- 'laws.FnSettle', WHERE WHAT IT READS IS OF BULK AT MOST 1048576: true; the input reads as it did. -/
def fnSettleUptoRow : OpenClaim := { program := "ytigmdaiecdoimaagreat", sum := "55171b9dea43e8bef85bebe61ed143f8be816726e33f6bd8d7ddfd59b65d068e", func := "loop.example/g00498/laws.FnSettle", spec := "fnSettle", unfollowed := true, recurses := true, apart := false, narrowed := true }
def FnSettleUptoSaid : Prop := fnSettleUptoRow.holds Tryz.pinned (OpenSpec.upto fnSettleSpec)

end Rows
end Go.Proofs.YtigmdaiecdoimaaGreat

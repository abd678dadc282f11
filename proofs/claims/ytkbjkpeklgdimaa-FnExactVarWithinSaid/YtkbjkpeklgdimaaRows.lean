/-
  No cell of these rows narrows 'for every input' (looked for: loops, veiled, ifaces, maps, wideKeys, modest, calm, conditions, laid).
  DERIVED. THE GIVEN ROWS OF THIS SEAT. 12 by the template 'for every input the law returns true; each argument reads behind the call as it read before'; 0 by the template 'total and deterministic' (their statements: YtkbjkpeklgdimaaTotals.lean).
  GIVEN WITH THE SEED: the statements are not yours to turn. If you find one false, say at which input.
  Laid BY PROGRAM, IN A SANDBOX (cutbox-rows.mjs): the forced cells as the released guide's own fill.sh prints them over the translation c3310871c8903f1d… (all of the seat's roots in one cut). By AI agents, Wed Nov 11 2026. No macro, syntax, notation, axiom, sorry.
-/
import Derived.Test.YtkbjkpeklgdimaaChecked
import GoSem.Claim
import GoSem.ClaimJoined
import GoSem.ClaimMapViews
import Derived.JoinedTies
import Derived.KernelRfl
namespace Go.Proofs.Ytkbjkpeklgdimaa
/- THE CELL 'sum', in the pinned program and in every row, IS THE sha256 OF THE DUMP (.gsa) THAT YtkbjkpeklgdimaaProg.lean LOADS. Nothing in Lean hashes anything: it is a label: what it is worth is what the hold of that sum in a sandbox is worth. -/
noncomputable def Try.pinned : Pinned := { name := "ytkbjkpeklgdimaa", sum := "c3310871c8903f1d28bfe6211d95b1c2bb6d9ce621823e8eaddb3054ab3fa7bb", checked := Try.checked }
namespace Rows
def none {H : Type} : Left H := { results := [], args := [] }

/-- 'laws.FnExactErrorWord': WHATEVER THE INPUT: true; the input reads as it did. -/
def fnExactErrorWordSpec : ChangeSpec := { name := "fnExactErrorWord", fn := fun _ => fun
  | [d] => { results := [.lit (.bool true)], args := [d] }
  | _ => none }
def fnExactErrorWordRow : OpenClaim := { program := "ytkbjkpeklgdimaa", sum := "c3310871c8903f1d28bfe6211d95b1c2bb6d9ce621823e8eaddb3054ab3fa7bb", func := "loop.example/g00498/laws.FnExactErrorWord", spec := "fnExactErrorWord", apart := false }
def FnExactErrorWordSaid : Prop := fnExactErrorWordRow.holds Try.pinned (OpenSpec.ofChange fnExactErrorWordSpec)

/-- ITS FALSE NEIGHBOUR: 'it returns false'. Refute it at one input. -/
def fnExactErrorWordWrong : ChangeSpec := { name := "fnExactErrorWord", fn := fun _ => fun
  | [d] => { results := [.lit (.bool false)], args := [d] }
  | _ => none }
def FnExactErrorWordWrongFalsely : Prop := fnExactErrorWordRow.holds Try.pinned (OpenSpec.ofChange fnExactErrorWordWrong)

/-- 'laws.FnExactModeWord': WHATEVER THE INPUT: true; the input reads as it did. -/
def fnExactModeWordSpec : ChangeSpec := { name := "fnExactModeWord", fn := fun _ => fun
  | [d] => { results := [.lit (.bool true)], args := [d] }
  | _ => none }
def fnExactModeWordRow : OpenClaim := { program := "ytkbjkpeklgdimaa", sum := "c3310871c8903f1d28bfe6211d95b1c2bb6d9ce621823e8eaddb3054ab3fa7bb", func := "loop.example/g00498/laws.FnExactModeWord", spec := "fnExactModeWord", apart := false }
def FnExactModeWordSaid : Prop := fnExactModeWordRow.holds Try.pinned (OpenSpec.ofChange fnExactModeWordSpec)

/-- ITS FALSE NEIGHBOUR: 'it returns false'. Refute it at one input. -/
def fnExactModeWordWrong : ChangeSpec := { name := "fnExactModeWord", fn := fun _ => fun
  | [d] => { results := [.lit (.bool false)], args := [d] }
  | _ => none }
def FnExactModeWordWrongFalsely : Prop := fnExactModeWordRow.holds Try.pinned (OpenSpec.ofChange fnExactModeWordWrong)

/-- 'laws.FnExactEventWord': WHATEVER THE INPUT: true; the input reads as it did. -/
def fnExactEventWordSpec : ChangeSpec := { name := "fnExactEventWord", fn := fun _ => fun
  | [d] => { results := [.lit (.bool true)], args := [d] }
  | _ => none }
def fnExactEventWordRow : OpenClaim := { program := "ytkbjkpeklgdimaa", sum := "c3310871c8903f1d28bfe6211d95b1c2bb6d9ce621823e8eaddb3054ab3fa7bb", func := "loop.example/g00498/laws.FnExactEventWord", spec := "fnExactEventWord", apart := false }
def FnExactEventWordSaid : Prop := fnExactEventWordRow.holds Try.pinned (OpenSpec.ofChange fnExactEventWordSpec)

/-- ITS FALSE NEIGHBOUR: 'it returns false'. Refute it at one input. -/
def fnExactEventWordWrong : ChangeSpec := { name := "fnExactEventWord", fn := fun _ => fun
  | [d] => { results := [.lit (.bool false)], args := [d] }
  | _ => none }
def FnExactEventWordWrongFalsely : Prop := fnExactEventWordRow.holds Try.pinned (OpenSpec.ofChange fnExactEventWordWrong)

/-- 'laws.FnExactRuns': WHATEVER THE INPUT: true; the input reads as it did. -/
def fnExactRunsSpec : ChangeSpec := { name := "fnExactRuns", fn := fun _ => fun
  | [d] => { results := [.lit (.bool true)], args := [d] }
  | _ => none }
def fnExactRunsRow : OpenClaim := { program := "ytkbjkpeklgdimaa", sum := "c3310871c8903f1d28bfe6211d95b1c2bb6d9ce621823e8eaddb3054ab3fa7bb", func := "loop.example/g00498/laws.FnExactRuns", spec := "fnExactRuns", apart := false }
def FnExactRunsSaid : Prop := fnExactRunsRow.holds Try.pinned (OpenSpec.ofChange fnExactRunsSpec)

/-- ITS FALSE NEIGHBOUR: 'it returns false'. Refute it at one input. -/
def fnExactRunsWrong : ChangeSpec := { name := "fnExactRuns", fn := fun _ => fun
  | [d] => { results := [.lit (.bool false)], args := [d] }
  | _ => none }
def FnExactRunsWrongFalsely : Prop := fnExactRunsRow.holds Try.pinned (OpenSpec.ofChange fnExactRunsWrong)

/-- 'laws.FnExactTerminal': WHATEVER THE INPUT: true; the input reads as it did. -/
def fnExactTerminalSpec : ChangeSpec := { name := "fnExactTerminal", fn := fun _ => fun
  | [d] => { results := [.lit (.bool true)], args := [d] }
  | _ => none }
def fnExactTerminalRow : OpenClaim := { program := "ytkbjkpeklgdimaa", sum := "c3310871c8903f1d28bfe6211d95b1c2bb6d9ce621823e8eaddb3054ab3fa7bb", func := "loop.example/g00498/laws.FnExactTerminal", spec := "fnExactTerminal", apart := false }
def FnExactTerminalSaid : Prop := fnExactTerminalRow.holds Try.pinned (OpenSpec.ofChange fnExactTerminalSpec)

/-- ITS FALSE NEIGHBOUR: 'it returns false'. Refute it at one input. -/
def fnExactTerminalWrong : ChangeSpec := { name := "fnExactTerminal", fn := fun _ => fun
  | [d] => { results := [.lit (.bool false)], args := [d] }
  | _ => none }
def FnExactTerminalWrongFalsely : Prop := fnExactTerminalRow.holds Try.pinned (OpenSpec.ofChange fnExactTerminalWrong)

/-- 'laws.FnExactFrameOf': WHATEVER THE INPUT: true; the input reads as it did. -/
def fnExactFrameOfSpec : ChangeSpec := { name := "fnExactFrameOf", fn := fun _ => fun
  | [d] => { results := [.lit (.bool true)], args := [d] }
  | _ => none }
def fnExactFrameOfRow : OpenClaim := { program := "ytkbjkpeklgdimaa", sum := "c3310871c8903f1d28bfe6211d95b1c2bb6d9ce621823e8eaddb3054ab3fa7bb", func := "loop.example/g00498/laws.FnExactFrameOf", spec := "fnExactFrameOf", apart := false }
def FnExactFrameOfSaid : Prop := fnExactFrameOfRow.holds Try.pinned (OpenSpec.ofChange fnExactFrameOfSpec)

/-- ITS FALSE NEIGHBOUR: 'it returns false'. Refute it at one input. -/
def fnExactFrameOfWrong : ChangeSpec := { name := "fnExactFrameOf", fn := fun _ => fun
  | [d] => { results := [.lit (.bool false)], args := [d] }
  | _ => none }
def FnExactFrameOfWrongFalsely : Prop := fnExactFrameOfRow.holds Try.pinned (OpenSpec.ofChange fnExactFrameOfWrong)

/-- 'laws.FnExactNumEvent': WHATEVER THE INPUT: true; the input reads as it did. -/
def fnExactNumEventSpec : ChangeSpec := { name := "fnExactNumEvent", fn := fun _ => fun
  | [d1, d2] => { results := [.lit (.bool true)], args := [d1, d2] }
  | _ => none }
def fnExactNumEventRow : OpenClaim := { program := "ytkbjkpeklgdimaa", sum := "c3310871c8903f1d28bfe6211d95b1c2bb6d9ce621823e8eaddb3054ab3fa7bb", func := "loop.example/g00498/laws.FnExactNumEvent", spec := "fnExactNumEvent", apart := false }
def FnExactNumEventSaid : Prop := fnExactNumEventRow.holds Try.pinned (OpenSpec.ofChange fnExactNumEventSpec)

/-- ITS FALSE NEIGHBOUR: 'it returns false'. Refute it at one input. -/
def fnExactNumEventWrong : ChangeSpec := { name := "fnExactNumEvent", fn := fun _ => fun
  | [d1, d2] => { results := [.lit (.bool false)], args := [d1, d2] }
  | _ => none }
def FnExactNumEventWrongFalsely : Prop := fnExactNumEventRow.holds Try.pinned (OpenSpec.ofChange fnExactNumEventWrong)

/-- 'laws.FnCompiled': WHATEVER THE INPUT: true; the input reads as it did. -/
def fnCompiledSpec : ChangeSpec := { name := "fnCompiled", fn := fun _ => fun
  | [d] => { results := [.lit (.bool true)], args := [d] }
  | _ => none }
def fnCompiledRow : OpenClaim := { program := "ytkbjkpeklgdimaa", sum := "c3310871c8903f1d28bfe6211d95b1c2bb6d9ce621823e8eaddb3054ab3fa7bb", func := "loop.example/g00498/laws.FnCompiled", spec := "fnCompiled", unfollowed := true, recurses := true, apart := false }
def FnCompiledSaid : Prop := fnCompiledRow.holds Try.pinned (OpenSpec.ofChange fnCompiledSpec)

/-- ITS FALSE NEIGHBOUR: 'it returns false'. Refute it at one input. -/
def fnCompiledWrong : ChangeSpec := { name := "fnCompiled", fn := fun _ => fun
  | [d] => { results := [.lit (.bool false)], args := [d] }
  | _ => none }
def FnCompiledWrongFalsely : Prop := fnCompiledRow.holds Try.pinned (OpenSpec.ofChange fnCompiledWrong)

/-- 'laws.FnExactVarWithin': WHATEVER THE INPUT: true; the input reads as it did. -/
def fnExactVarWithinSpec : ChangeSpec := { name := "fnExactVarWithin", fn := fun _ => fun
  | [d1, d2, d3] => { results := [.lit (.bool true)], args := [d1, d2, d3] }
  | _ => none }
def fnExactVarWithinRow : OpenClaim := { program := "ytkbjkpeklgdimaa", sum := "c3310871c8903f1d28bfe6211d95b1c2bb6d9ce621823e8eaddb3054ab3fa7bb", func := "loop.example/g00498/laws.FnExactVarWithin", spec := "fnExactVarWithin", apart := false }
def FnExactVarWithinSaid : Prop := fnExactVarWithinRow.holds Try.pinned (OpenSpec.ofChange fnExactVarWithinSpec)

/-- ITS FALSE NEIGHBOUR: 'it returns false'. Refute it at one input. -/
def fnExactVarWithinWrong : ChangeSpec := { name := "fnExactVarWithin", fn := fun _ => fun
  | [d1, d2, d3] => { results := [.lit (.bool false)], args := [d1, d2, d3] }
  | _ => none }
def FnExactVarWithinWrongFalsely : Prop := fnExactVarWithinRow.holds Try.pinned (OpenSpec.ofChange fnExactVarWithinWrong)

/-- 'laws.FnNumEvent': WHATEVER THE INPUT: true; the input reads as it did. -/
def fnNumEventSpec : ChangeSpec := { name := "fnNumEvent", fn := fun _ => fun
  | [d] => { results := [.lit (.bool true)], args := [d] }
  | _ => none }
def fnNumEventRow : OpenClaim := { program := "ytkbjkpeklgdimaa", sum := "c3310871c8903f1d28bfe6211d95b1c2bb6d9ce621823e8eaddb3054ab3fa7bb", func := "loop.example/g00498/laws.FnNumEvent", spec := "fnNumEvent", apart := false }
def FnNumEventSaid : Prop := fnNumEventRow.holds Try.pinned (OpenSpec.ofChange fnNumEventSpec)

/-- ITS FALSE NEIGHBOUR: 'it returns false'. Refute it at one input. -/
def fnNumEventWrong : ChangeSpec := { name := "fnNumEvent", fn := fun _ => fun
  | [d] => { results := [.lit (.bool false)], args := [d] }
  | _ => none }
def FnNumEventWrongFalsely : Prop := fnNumEventRow.holds Try.pinned (OpenSpec.ofChange fnNumEventWrong)

/-- 'laws.FnWords': WHATEVER THE INPUT: true; the input reads as it did. -/
def fnWordsSpec : ChangeSpec := { name := "fnWords", fn := fun _ => fun
  | [d] => { results := [.lit (.bool true)], args := [d] }
  | _ => none }
def fnWordsRow : OpenClaim := { program := "ytkbjkpeklgdimaa", sum := "c3310871c8903f1d28bfe6211d95b1c2bb6d9ce621823e8eaddb3054ab3fa7bb", func := "loop.example/g00498/laws.FnWords", spec := "fnWords", apart := false }
def FnWordsSaid : Prop := fnWordsRow.holds Try.pinned (OpenSpec.ofChange fnWordsSpec)

/-- ITS FALSE NEIGHBOUR: 'it returns false'. Refute it at one input. -/
def fnWordsWrong : ChangeSpec := { name := "fnWords", fn := fun _ => fun
  | [d] => { results := [.lit (.bool false)], args := [d] }
  | _ => none }
def FnWordsWrongFalsely : Prop := fnWordsRow.holds Try.pinned (OpenSpec.ofChange fnWordsWrong)

/-- 'laws.FnExactEventOk': WHATEVER THE INPUT: true; the input reads as it did. -/
def fnExactEventOkSpec : ChangeSpec := { name := "fnExactEventOk", fn := fun _ => fun
  | [d] => { results := [.lit (.bool true)], args := [d] }
  | _ => none }
def fnExactEventOkRow : OpenClaim := { program := "ytkbjkpeklgdimaa", sum := "c3310871c8903f1d28bfe6211d95b1c2bb6d9ce621823e8eaddb3054ab3fa7bb", func := "loop.example/g00498/laws.FnExactEventOk", spec := "fnExactEventOk", apart := false }
def FnExactEventOkSaid : Prop := fnExactEventOkRow.holds Try.pinned (OpenSpec.ofChange fnExactEventOkSpec)

/-- ITS FALSE NEIGHBOUR: 'it returns false'. Refute it at one input. -/
def fnExactEventOkWrong : ChangeSpec := { name := "fnExactEventOk", fn := fun _ => fun
  | [d] => { results := [.lit (.bool false)], args := [d] }
  | _ => none }
def FnExactEventOkWrongFalsely : Prop := fnExactEventOkRow.holds Try.pinned (OpenSpec.ofChange fnExactEventOkWrong)

/- THE SECOND FORM. 'bulk': how many values and letters a reading holds, each counted each time it is reached (what is shared counts as often as it is met; a slice's spare places count too). A statement '..UptoSaid' is the law's where the arguments, and the package variables that the reading takes, are together of bulk at most 1048576: NARROWER than '..Said'. Prove '..Said' where nothing that the law and all that it calls make is longer than what came in: it says more and counts as full. Else prove '..UptoSaid'. A law counts once. -/
mutual
def uptoBulk {H : Type} : DataW H → Nat
  | .lit (.string bytes) => bytes.length + 1
  | .lit _ => 1
  | .nil => 1
  | .ptr d => uptoBulk d + 1
  | .slice elems spare => uptoBulkAll elems + uptoBulkAll spare + 1
  | .agg parts => uptoBulkAll parts + 1
  | .iface _ d => uptoBulk d + 1
  | .map entries => uptoBulkEntries entries + 1
  | .held _ => 1
def uptoBulkAll {H : Type} : List (DataW H) → Nat
  | [] => 0
  | d :: r => uptoBulk d + uptoBulkAll r
def uptoBulkEntries {H : Type} : List (Lit × DataW H) → Nat
  | [] => 0
  | x :: r => uptoBulkEntry x + uptoBulkEntries r
def uptoBulkEntry {H : Type} : Lit × DataW H → Nat
  | (.string bytes, d) => bytes.length + uptoBulk d + 1
  | (_, d) => uptoBulk d + 1
 end
def uptoSmall : (H : Type) → List (DataW H) → Bool := fun _ ds => decide (uptoBulkAll ds ≤ 1048576)
def OpenSpec.upto (s : _root_.Go.ChangeSpec) : _root_.Go.OpenSpec := { _root_.Go.OpenSpec.ofChange s with cond := some uptoSmall }

/-- 'laws.FnExactErrorWord', WHERE WHAT IT READS IS OF BULK AT MOST 1048576: true; the input reads as it did. -/
def fnExactErrorWordUptoRow : OpenClaim := { program := "ytkbjkpeklgdimaa", sum := "c3310871c8903f1d28bfe6211d95b1c2bb6d9ce621823e8eaddb3054ab3fa7bb", func := "loop.example/g00498/laws.FnExactErrorWord", spec := "fnExactErrorWord", apart := false, narrowed := true }
def FnExactErrorWordUptoSaid : Prop := fnExactErrorWordUptoRow.holds Try.pinned (OpenSpec.upto fnExactErrorWordSpec)

/-- 'laws.FnExactModeWord', WHERE WHAT IT READS IS OF BULK AT MOST 1048576: true; the input reads as it did. -/
def fnExactModeWordUptoRow : OpenClaim := { program := "ytkbjkpeklgdimaa", sum := "c3310871c8903f1d28bfe6211d95b1c2bb6d9ce621823e8eaddb3054ab3fa7bb", func := "loop.example/g00498/laws.FnExactModeWord", spec := "fnExactModeWord", apart := false, narrowed := true }
def FnExactModeWordUptoSaid : Prop := fnExactModeWordUptoRow.holds Try.pinned (OpenSpec.upto fnExactModeWordSpec)

/-- 'laws.FnExactEventWord', WHERE WHAT IT READS IS OF BULK AT MOST 1048576: true; the input reads as it did. -/
def fnExactEventWordUptoRow : OpenClaim := { program := "ytkbjkpeklgdimaa", sum := "c3310871c8903f1d28bfe6211d95b1c2bb6d9ce621823e8eaddb3054ab3fa7bb", func := "loop.example/g00498/laws.FnExactEventWord", spec := "fnExactEventWord", apart := false, narrowed := true }
def FnExactEventWordUptoSaid : Prop := fnExactEventWordUptoRow.holds Try.pinned (OpenSpec.upto fnExactEventWordSpec)

/-- 'laws.FnExactRuns', WHERE WHAT IT READS IS OF BULK AT MOST 1048576: true; the input reads as it did. -/
def fnExactRunsUptoRow : OpenClaim := { program := "ytkbjkpeklgdimaa", sum := "c3310871c8903f1d28bfe6211d95b1c2bb6d9ce621823e8eaddb3054ab3fa7bb", func := "loop.example/g00498/laws.FnExactRuns", spec := "fnExactRuns", apart := false, narrowed := true }
def FnExactRunsUptoSaid : Prop := fnExactRunsUptoRow.holds Try.pinned (OpenSpec.upto fnExactRunsSpec)

/-- 'laws.FnExactTerminal', WHERE WHAT IT READS IS OF BULK AT MOST 1048576: true; the input reads as it did. -/
def fnExactTerminalUptoRow : OpenClaim := { program := "ytkbjkpeklgdimaa", sum := "c3310871c8903f1d28bfe6211d95b1c2bb6d9ce621823e8eaddb3054ab3fa7bb", func := "loop.example/g00498/laws.FnExactTerminal", spec := "fnExactTerminal", apart := false, narrowed := true }
def FnExactTerminalUptoSaid : Prop := fnExactTerminalUptoRow.holds Try.pinned (OpenSpec.upto fnExactTerminalSpec)

/-- 'laws.FnExactFrameOf', WHERE WHAT IT READS IS OF BULK AT MOST 1048576: true; the input reads as it did. -/
def fnExactFrameOfUptoRow : OpenClaim := { program := "ytkbjkpeklgdimaa", sum := "c3310871c8903f1d28bfe6211d95b1c2bb6d9ce621823e8eaddb3054ab3fa7bb", func := "loop.example/g00498/laws.FnExactFrameOf", spec := "fnExactFrameOf", apart := false, narrowed := true }
def FnExactFrameOfUptoSaid : Prop := fnExactFrameOfUptoRow.holds Try.pinned (OpenSpec.upto fnExactFrameOfSpec)

/-- 'laws.FnExactNumEvent', WHERE WHAT IT READS IS OF BULK AT MOST 1048576: true; the input reads as it did. -/
def fnExactNumEventUptoRow : OpenClaim := { program := "ytkbjkpeklgdimaa", sum := "c3310871c8903f1d28bfe6211d95b1c2bb6d9ce621823e8eaddb3054ab3fa7bb", func := "loop.example/g00498/laws.FnExactNumEvent", spec := "fnExactNumEvent", apart := false, narrowed := true }
def FnExactNumEventUptoSaid : Prop := fnExactNumEventUptoRow.holds Try.pinned (OpenSpec.upto fnExactNumEventSpec)

/-- 'laws.FnCompiled', WHERE WHAT IT READS IS OF BULK AT MOST 1048576: true; the input reads as it did. -/
def fnCompiledUptoRow : OpenClaim := { program := "ytkbjkpeklgdimaa", sum := "c3310871c8903f1d28bfe6211d95b1c2bb6d9ce621823e8eaddb3054ab3fa7bb", func := "loop.example/g00498/laws.FnCompiled", spec := "fnCompiled", unfollowed := true, recurses := true, apart := false, narrowed := true }
def FnCompiledUptoSaid : Prop := fnCompiledUptoRow.holds Try.pinned (OpenSpec.upto fnCompiledSpec)

/-- 'laws.FnExactVarWithin', WHERE WHAT IT READS IS OF BULK AT MOST 1048576: true; the input reads as it did. -/
def fnExactVarWithinUptoRow : OpenClaim := { program := "ytkbjkpeklgdimaa", sum := "c3310871c8903f1d28bfe6211d95b1c2bb6d9ce621823e8eaddb3054ab3fa7bb", func := "loop.example/g00498/laws.FnExactVarWithin", spec := "fnExactVarWithin", apart := false, narrowed := true }
def FnExactVarWithinUptoSaid : Prop := fnExactVarWithinUptoRow.holds Try.pinned (OpenSpec.upto fnExactVarWithinSpec)

/-- 'laws.FnNumEvent', WHERE WHAT IT READS IS OF BULK AT MOST 1048576: true; the input reads as it did. -/
def fnNumEventUptoRow : OpenClaim := { program := "ytkbjkpeklgdimaa", sum := "c3310871c8903f1d28bfe6211d95b1c2bb6d9ce621823e8eaddb3054ab3fa7bb", func := "loop.example/g00498/laws.FnNumEvent", spec := "fnNumEvent", apart := false, narrowed := true }
def FnNumEventUptoSaid : Prop := fnNumEventUptoRow.holds Try.pinned (OpenSpec.upto fnNumEventSpec)

/-- 'laws.FnWords', WHERE WHAT IT READS IS OF BULK AT MOST 1048576: true; the input reads as it did. -/
def fnWordsUptoRow : OpenClaim := { program := "ytkbjkpeklgdimaa", sum := "c3310871c8903f1d28bfe6211d95b1c2bb6d9ce621823e8eaddb3054ab3fa7bb", func := "loop.example/g00498/laws.FnWords", spec := "fnWords", apart := false, narrowed := true }
def FnWordsUptoSaid : Prop := fnWordsUptoRow.holds Try.pinned (OpenSpec.upto fnWordsSpec)

/-- 'laws.FnExactEventOk', WHERE WHAT IT READS IS OF BULK AT MOST 1048576: true; the input reads as it did. -/
def fnExactEventOkUptoRow : OpenClaim := { program := "ytkbjkpeklgdimaa", sum := "c3310871c8903f1d28bfe6211d95b1c2bb6d9ce621823e8eaddb3054ab3fa7bb", func := "loop.example/g00498/laws.FnExactEventOk", spec := "fnExactEventOk", apart := false, narrowed := true }
def FnExactEventOkUptoSaid : Prop := fnExactEventOkUptoRow.holds Try.pinned (OpenSpec.upto fnExactEventOkSpec)

end Rows
end Go.Proofs.Ytkbjkpeklgdimaa

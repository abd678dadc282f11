/-
  No cell of these rows narrows 'for every input' (looked for: loops, veiled, ifaces, maps, wideKeys, modest, calm, conditions, laid).
  DERIVED. THE GIVEN ROWS OF THIS SEAT. 12 by the template 'for every input the law returns true; each argument reads behind the call as it read before'; 0 by the template 'total and deterministic' (their statements: YthnkkogffpaegaaTotals.lean).
  GIVEN WITH THE SEED: the statements are not yours to turn. If you find one false, say at which input.
  Laid BY PROGRAM, IN A SANDBOX (cutbox-rows.mjs): the forced cells as the released guide's own fill.sh prints them over the translation 8878c55ee4a474fa… (all of the seat's roots in one cut). By AI agents, Wed Nov 11 2026. No macro, syntax, notation, axiom, sorry.
-/
import Derived.Test.YthnkkogffpaegaaChecked
import GoSem.Claim
import GoSem.ClaimJoined
import GoSem.ClaimMapViews
import Derived.JoinedTies
import Derived.KernelRfl
namespace Go.Proofs.Ythnkkogffpaegaa
/- THE CELL 'sum', in the pinned program and in every row, IS THE sha256 OF THE DUMP (.gsa) THAT YthnkkogffpaegaaProg.lean LOADS. Nothing in Lean hashes anything: it is a label: what it is worth is what the hold of that sum in a sandbox is worth. -/
noncomputable def Try.pinned : Pinned := { name := "ythnkkogffpaegaa", sum := "8878c55ee4a474fa710e2f38dd02d9df9133d6ba611a73999bb1bd09f7ce09c4", checked := Try.checked }
namespace Rows
def none {H : Type} : Left H := { results := [], args := [] }

/-- 'laws.FnExactReaderOk': WHATEVER THE INPUT: true; the input reads as it did. -/
def fnExactReaderOkSpec : ChangeSpec := { name := "fnExactReaderOk", fn := fun _ => fun
  | [d] => { results := [.lit (.bool true)], args := [d] }
  | _ => none }
def fnExactReaderOkRow : OpenClaim := { program := "ythnkkogffpaegaa", sum := "8878c55ee4a474fa710e2f38dd02d9df9133d6ba611a73999bb1bd09f7ce09c4", func := "loop.example/g00498/laws.FnExactReaderOk", spec := "fnExactReaderOk", apart := false }
def FnExactReaderOkSaid : Prop := fnExactReaderOkRow.holds Try.pinned (OpenSpec.ofChange fnExactReaderOkSpec)

/-- ITS FALSE NEIGHBOUR: 'it returns false'. Refute it at one input. -/
def fnExactReaderOkWrong : ChangeSpec := { name := "fnExactReaderOk", fn := fun _ => fun
  | [d] => { results := [.lit (.bool false)], args := [d] }
  | _ => none }
def FnExactReaderOkWrongFalsely : Prop := fnExactReaderOkRow.holds Try.pinned (OpenSpec.ofChange fnExactReaderOkWrong)

/-- 'laws.FnExactMany': WHATEVER THE INPUT: true; the input reads as it did. -/
def fnExactManySpec : ChangeSpec := { name := "fnExactMany", fn := fun _ => fun
  | [d1, d2] => { results := [.lit (.bool true)], args := [d1, d2] }
  | _ => none }
def fnExactManyRow : OpenClaim := { program := "ythnkkogffpaegaa", sum := "8878c55ee4a474fa710e2f38dd02d9df9133d6ba611a73999bb1bd09f7ce09c4", func := "loop.example/g00498/laws.FnExactMany", spec := "fnExactMany", apart := false }
def FnExactManySaid : Prop := fnExactManyRow.holds Try.pinned (OpenSpec.ofChange fnExactManySpec)

/-- ITS FALSE NEIGHBOUR: 'it returns false'. Refute it at one input. -/
def fnExactManyWrong : ChangeSpec := { name := "fnExactMany", fn := fun _ => fun
  | [d1, d2] => { results := [.lit (.bool false)], args := [d1, d2] }
  | _ => none }
def FnExactManyWrongFalsely : Prop := fnExactManyRow.holds Try.pinned (OpenSpec.ofChange fnExactManyWrong)

/-- 'laws.FnExactPartBytes': WHATEVER THE INPUT: true; the input reads as it did. -/
def fnExactPartBytesSpec : ChangeSpec := { name := "fnExactPartBytes", fn := fun _ => fun
  | [d] => { results := [.lit (.bool true)], args := [d] }
  | _ => none }
def fnExactPartBytesRow : OpenClaim := { program := "ythnkkogffpaegaa", sum := "8878c55ee4a474fa710e2f38dd02d9df9133d6ba611a73999bb1bd09f7ce09c4", func := "loop.example/g00498/laws.FnExactPartBytes", spec := "fnExactPartBytes", apart := false }
def FnExactPartBytesSaid : Prop := fnExactPartBytesRow.holds Try.pinned (OpenSpec.ofChange fnExactPartBytesSpec)

/-- ITS FALSE NEIGHBOUR: 'it returns false'. Refute it at one input. -/
def fnExactPartBytesWrong : ChangeSpec := { name := "fnExactPartBytes", fn := fun _ => fun
  | [d] => { results := [.lit (.bool false)], args := [d] }
  | _ => none }
def FnExactPartBytesWrongFalsely : Prop := fnExactPartBytesRow.holds Try.pinned (OpenSpec.ofChange fnExactPartBytesWrong)

/-- 'laws.FnExactSameEvents': WHATEVER THE INPUT: true; the input reads as it did. -/
def fnExactSameEventsSpec : ChangeSpec := { name := "fnExactSameEvents", fn := fun _ => fun
  | [d1, d2] => { results := [.lit (.bool true)], args := [d1, d2] }
  | _ => none }
def fnExactSameEventsRow : OpenClaim := { program := "ythnkkogffpaegaa", sum := "8878c55ee4a474fa710e2f38dd02d9df9133d6ba611a73999bb1bd09f7ce09c4", func := "loop.example/g00498/laws.FnExactSameEvents", spec := "fnExactSameEvents", apart := false }
def FnExactSameEventsSaid : Prop := fnExactSameEventsRow.holds Try.pinned (OpenSpec.ofChange fnExactSameEventsSpec)

/-- ITS FALSE NEIGHBOUR: 'it returns false'. Refute it at one input. -/
def fnExactSameEventsWrong : ChangeSpec := { name := "fnExactSameEvents", fn := fun _ => fun
  | [d1, d2] => { results := [.lit (.bool false)], args := [d1, d2] }
  | _ => none }
def FnExactSameEventsWrongFalsely : Prop := fnExactSameEventsRow.holds Try.pinned (OpenSpec.ofChange fnExactSameEventsWrong)

/-- 'laws.FnExactLongestPart': WHATEVER THE INPUT: true; the input reads as it did. -/
def fnExactLongestPartSpec : ChangeSpec := { name := "fnExactLongestPart", fn := fun _ => fun
  | [d] => { results := [.lit (.bool true)], args := [d] }
  | _ => none }
def fnExactLongestPartRow : OpenClaim := { program := "ythnkkogffpaegaa", sum := "8878c55ee4a474fa710e2f38dd02d9df9133d6ba611a73999bb1bd09f7ce09c4", func := "loop.example/g00498/laws.FnExactLongestPart", spec := "fnExactLongestPart", apart := false }
def FnExactLongestPartSaid : Prop := fnExactLongestPartRow.holds Try.pinned (OpenSpec.ofChange fnExactLongestPartSpec)

/-- ITS FALSE NEIGHBOUR: 'it returns false'. Refute it at one input. -/
def fnExactLongestPartWrong : ChangeSpec := { name := "fnExactLongestPart", fn := fun _ => fun
  | [d] => { results := [.lit (.bool false)], args := [d] }
  | _ => none }
def FnExactLongestPartWrongFalsely : Prop := fnExactLongestPartRow.holds Try.pinned (OpenSpec.ofChange fnExactLongestPartWrong)

/-- 'laws.FnExactCut': WHATEVER THE INPUT: true; the input reads as it did. -/
def fnExactCutSpec : ChangeSpec := { name := "fnExactCut", fn := fun _ => fun
  | [d1, d2] => { results := [.lit (.bool true)], args := [d1, d2] }
  | _ => none }
def fnExactCutRow : OpenClaim := { program := "ythnkkogffpaegaa", sum := "8878c55ee4a474fa710e2f38dd02d9df9133d6ba611a73999bb1bd09f7ce09c4", func := "loop.example/g00498/laws.FnExactCut", spec := "fnExactCut", apart := false }
def FnExactCutSaid : Prop := fnExactCutRow.holds Try.pinned (OpenSpec.ofChange fnExactCutSpec)

/-- ITS FALSE NEIGHBOUR: 'it returns false'. Refute it at one input. -/
def fnExactCutWrong : ChangeSpec := { name := "fnExactCut", fn := fun _ => fun
  | [d1, d2] => { results := [.lit (.bool false)], args := [d1, d2] }
  | _ => none }
def FnExactCutWrongFalsely : Prop := fnExactCutRow.holds Try.pinned (OpenSpec.ofChange fnExactCutWrong)

/-- 'laws.FnExactJoined': WHATEVER THE INPUT: true; the input reads as it did. -/
def fnExactJoinedSpec : ChangeSpec := { name := "fnExactJoined", fn := fun _ => fun
  | [d] => { results := [.lit (.bool true)], args := [d] }
  | _ => none }
def fnExactJoinedRow : OpenClaim := { program := "ythnkkogffpaegaa", sum := "8878c55ee4a474fa710e2f38dd02d9df9133d6ba611a73999bb1bd09f7ce09c4", func := "loop.example/g00498/laws.FnExactJoined", spec := "fnExactJoined", inPlace := ["internal/abi.NoEscape", "internal/bytealg.MakeNoZero"], apart := false }
def FnExactJoinedSaid : Prop := fnExactJoinedRow.holds Try.pinned (OpenSpec.ofChange fnExactJoinedSpec)

/-- ITS FALSE NEIGHBOUR: 'it returns false'. Refute it at one input. -/
def fnExactJoinedWrong : ChangeSpec := { name := "fnExactJoined", fn := fun _ => fun
  | [d] => { results := [.lit (.bool false)], args := [d] }
  | _ => none }
def FnExactJoinedWrongFalsely : Prop := fnExactJoinedRow.holds Try.pinned (OpenSpec.ofChange fnExactJoinedWrong)

/-- 'laws.FnExactShapeAt': WHATEVER THE INPUT: true; the input reads as it did. -/
def fnExactShapeAtSpec : ChangeSpec := { name := "fnExactShapeAt", fn := fun _ => fun
  | [d1, d2] => { results := [.lit (.bool true)], args := [d1, d2] }
  | _ => none }
def fnExactShapeAtRow : OpenClaim := { program := "ythnkkogffpaegaa", sum := "8878c55ee4a474fa710e2f38dd02d9df9133d6ba611a73999bb1bd09f7ce09c4", func := "loop.example/g00498/laws.FnExactShapeAt", spec := "fnExactShapeAt", unfollowed := true, recurses := true, apart := false }
def FnExactShapeAtSaid : Prop := fnExactShapeAtRow.holds Try.pinned (OpenSpec.ofChange fnExactShapeAtSpec)

/-- ITS FALSE NEIGHBOUR: 'it returns false'. Refute it at one input. -/
def fnExactShapeAtWrong : ChangeSpec := { name := "fnExactShapeAt", fn := fun _ => fun
  | [d1, d2] => { results := [.lit (.bool false)], args := [d1, d2] }
  | _ => none }
def FnExactShapeAtWrongFalsely : Prop := fnExactShapeAtRow.holds Try.pinned (OpenSpec.ofChange fnExactShapeAtWrong)

/-- 'laws.FnExactFieldAt': WHATEVER THE INPUT: true; the input reads as it did. -/
def fnExactFieldAtSpec : ChangeSpec := { name := "fnExactFieldAt", fn := fun _ => fun
  | [d1, d2, d3] => { results := [.lit (.bool true)], args := [d1, d2, d3] }
  | _ => none }
def fnExactFieldAtRow : OpenClaim := { program := "ythnkkogffpaegaa", sum := "8878c55ee4a474fa710e2f38dd02d9df9133d6ba611a73999bb1bd09f7ce09c4", func := "loop.example/g00498/laws.FnExactFieldAt", spec := "fnExactFieldAt", apart := false }
def FnExactFieldAtSaid : Prop := fnExactFieldAtRow.holds Try.pinned (OpenSpec.ofChange fnExactFieldAtSpec)

/-- ITS FALSE NEIGHBOUR: 'it returns false'. Refute it at one input. -/
def fnExactFieldAtWrong : ChangeSpec := { name := "fnExactFieldAt", fn := fun _ => fun
  | [d1, d2, d3] => { results := [.lit (.bool false)], args := [d1, d2, d3] }
  | _ => none }
def FnExactFieldAtWrongFalsely : Prop := fnExactFieldAtRow.holds Try.pinned (OpenSpec.ofChange fnExactFieldAtWrong)

/-- 'laws.FnExactSameSchema': WHATEVER THE INPUT: true; the input reads as it did. -/
def fnExactSameSchemaSpec : ChangeSpec := { name := "fnExactSameSchema", fn := fun _ => fun
  | [d1, d2] => { results := [.lit (.bool true)], args := [d1, d2] }
  | _ => none }
def fnExactSameSchemaRow : OpenClaim := { program := "ythnkkogffpaegaa", sum := "8878c55ee4a474fa710e2f38dd02d9df9133d6ba611a73999bb1bd09f7ce09c4", func := "loop.example/g00498/laws.FnExactSameSchema", spec := "fnExactSameSchema", unfollowed := true, recurses := true, apart := false }
def FnExactSameSchemaSaid : Prop := fnExactSameSchemaRow.holds Try.pinned (OpenSpec.ofChange fnExactSameSchemaSpec)

/-- ITS FALSE NEIGHBOUR: 'it returns false'. Refute it at one input. -/
def fnExactSameSchemaWrong : ChangeSpec := { name := "fnExactSameSchema", fn := fun _ => fun
  | [d1, d2] => { results := [.lit (.bool false)], args := [d1, d2] }
  | _ => none }
def FnExactSameSchemaWrongFalsely : Prop := fnExactSameSchemaRow.holds Try.pinned (OpenSpec.ofChange fnExactSameSchemaWrong)

/-- 'laws.FnVarWithin': WHATEVER THE INPUT: true; the input reads as it did. -/
def fnVarWithinSpec : ChangeSpec := { name := "fnVarWithin", fn := fun _ => fun
  | [d] => { results := [.lit (.bool true)], args := [d] }
  | _ => none }
def fnVarWithinRow : OpenClaim := { program := "ythnkkogffpaegaa", sum := "8878c55ee4a474fa710e2f38dd02d9df9133d6ba611a73999bb1bd09f7ce09c4", func := "loop.example/g00498/laws.FnVarWithin", spec := "fnVarWithin", apart := false }
def FnVarWithinSaid : Prop := fnVarWithinRow.holds Try.pinned (OpenSpec.ofChange fnVarWithinSpec)

/-- ITS FALSE NEIGHBOUR: 'it returns false'. Refute it at one input. -/
def fnVarWithinWrong : ChangeSpec := { name := "fnVarWithin", fn := fun _ => fun
  | [d] => { results := [.lit (.bool false)], args := [d] }
  | _ => none }
def FnVarWithinWrongFalsely : Prop := fnVarWithinRow.holds Try.pinned (OpenSpec.ofChange fnVarWithinWrong)

/-- 'laws.FnCut': WHATEVER THE INPUT: true; the input reads as it did. -/
def fnCutSpec : ChangeSpec := { name := "fnCut", fn := fun _ => fun
  | [d] => { results := [.lit (.bool true)], args := [d] }
  | _ => none }
def fnCutRow : OpenClaim := { program := "ythnkkogffpaegaa", sum := "8878c55ee4a474fa710e2f38dd02d9df9133d6ba611a73999bb1bd09f7ce09c4", func := "loop.example/g00498/laws.FnCut", spec := "fnCut", inPlace := ["internal/abi.NoEscape", "internal/bytealg.MakeNoZero"], apart := false }
def FnCutSaid : Prop := fnCutRow.holds Try.pinned (OpenSpec.ofChange fnCutSpec)

/-- ITS FALSE NEIGHBOUR: 'it returns false'. Refute it at one input. -/
def fnCutWrong : ChangeSpec := { name := "fnCut", fn := fun _ => fun
  | [d] => { results := [.lit (.bool false)], args := [d] }
  | _ => none }
def FnCutWrongFalsely : Prop := fnCutRow.holds Try.pinned (OpenSpec.ofChange fnCutWrong)

/- THE SECOND FORM. 'bulk': how many values and letters a reading holds, each counted each time it is reached (what is shared counts as often as it is met; a slice's spare places count too). A statement '..UptoSaid' is the law's where the arguments, and the package variables that the reading takes, are together of bulk at most 1048576: NARROWER than '..Said'. Prove '..Said' where nothing that the law and all that it calls make is longer than what came in: it says more and counts as full. Else prove '..UptoSaid'. A law counts once. -/
mutual
def uptoBulk {H : Type} : DataW H → Nat
  | .lit (.string bytes) => bytes.length + 1
  | .lit _ => 1
  | .nil => 1
  | .ptr d => uptoBulk d + 1
  | .slice elems spare => uptoBulkAll elems + uptoBulkAll spare + 1
  | .agg parts => uptoBulkAll parts + 1
  | .iface _ d => uptoBulk d + 1
  | .map entries => uptoBulkEntries entries + 1
  | .held _ => 1
def uptoBulkAll {H : Type} : List (DataW H) → Nat
  | [] => 0
  | d :: r => uptoBulk d + uptoBulkAll r
def uptoBulkEntries {H : Type} : List (Lit × DataW H) → Nat
  | [] => 0
  | x :: r => uptoBulkEntry x + uptoBulkEntries r
def uptoBulkEntry {H : Type} : Lit × DataW H → Nat
  | (.string bytes, d) => bytes.length + uptoBulk d + 1
  | (_, d) => uptoBulk d + 1
 end
def uptoSmall : (H : Type) → List (DataW H) → Bool := fun _ ds => decide (uptoBulkAll ds ≤ 1048576)
def OpenSpec.upto (s : _root_.Go.ChangeSpec) : _root_.Go.OpenSpec := { _root_.Go.OpenSpec.ofChange s with cond := some uptoSmall }

/-- 'laws.FnExactReaderOk', WHERE WHAT IT READS IS OF BULK AT MOST 1048576: true; the input reads as it did. -/
def fnExactReaderOkUptoRow : OpenClaim := { program := "ythnkkogffpaegaa", sum := "8878c55ee4a474fa710e2f38dd02d9df9133d6ba611a73999bb1bd09f7ce09c4", func := "loop.example/g00498/laws.FnExactReaderOk", spec := "fnExactReaderOk", apart := false, narrowed := true }
def FnExactReaderOkUptoSaid : Prop := fnExactReaderOkUptoRow.holds Try.pinned (OpenSpec.upto fnExactReaderOkSpec)

/-- 'laws.FnExactMany', WHERE WHAT IT READS IS OF BULK AT MOST 1048576: true; the input reads as it did. -/
def fnExactManyUptoRow : OpenClaim := { program := "ythnkkogffpaegaa", sum := "8878c55ee4a474fa710e2f38dd02d9df9133d6ba611a73999bb1bd09f7ce09c4", func := "loop.example/g00498/laws.FnExactMany", spec := "fnExactMany", apart := false, narrowed := true }
def FnExactManyUptoSaid : Prop := fnExactManyUptoRow.holds Try.pinned (OpenSpec.upto fnExactManySpec)

/-- 'laws.FnExactPartBytes', WHERE WHAT IT READS IS OF BULK AT MOST 1048576: true; the input reads as it did. -/
def fnExactPartBytesUptoRow : OpenClaim := { program := "ythnkkogffpaegaa", sum := "8878c55ee4a474fa710e2f38dd02d9df9133d6ba611a73999bb1bd09f7ce09c4", func := "loop.example/g00498/laws.FnExactPartBytes", spec := "fnExactPartBytes", apart := false, narrowed := true }
def FnExactPartBytesUptoSaid : Prop := fnExactPartBytesUptoRow.holds Try.pinned (OpenSpec.upto fnExactPartBytesSpec)

/-- 'laws.FnExactSameEvents', WHERE WHAT IT READS IS OF BULK AT MOST 1048576: true; the input reads as it did. -/
def fnExactSameEventsUptoRow : OpenClaim := { program := "ythnkkogffpaegaa", sum := "8878c55ee4a474fa710e2f38dd02d9df9133d6ba611a73999bb1bd09f7ce09c4", func := "loop.example/g00498/laws.FnExactSameEvents", spec := "fnExactSameEvents", apart := false, narrowed := true }
def FnExactSameEventsUptoSaid : Prop := fnExactSameEventsUptoRow.holds Try.pinned (OpenSpec.upto fnExactSameEventsSpec)

/-- 'laws.FnExactLongestPart', WHERE WHAT IT READS IS OF BULK AT MOST 1048576: true; the input reads as it did. -/
def fnExactLongestPartUptoRow : OpenClaim := { program := "ythnkkogffpaegaa", sum := "8878c55ee4a474fa710e2f38dd02d9df9133d6ba611a73999bb1bd09f7ce09c4", func := "loop.example/g00498/laws.FnExactLongestPart", spec := "fnExactLongestPart", apart := false, narrowed := true }
def FnExactLongestPartUptoSaid : Prop := fnExactLongestPartUptoRow.holds Try.pinned (OpenSpec.upto fnExactLongestPartSpec)

/-- 'laws.FnExactCut', WHERE WHAT IT READS IS OF BULK AT MOST 1048576: true; the input reads as it did. -/
def fnExactCutUptoRow : OpenClaim := { program := "ythnkkogffpaegaa", sum := "8878c55ee4a474fa710e2f38dd02d9df9133d6ba611a73999bb1bd09f7ce09c4", func := "loop.example/g00498/laws.FnExactCut", spec := "fnExactCut", apart := false, narrowed := true }
def FnExactCutUptoSaid : Prop := fnExactCutUptoRow.holds Try.pinned (OpenSpec.upto fnExactCutSpec)

/-- 'laws.FnExactJoined', WHERE WHAT IT READS IS OF BULK AT MOST 1048576: true; the input reads as it did. -/
def fnExactJoinedUptoRow : OpenClaim := { program := "ythnkkogffpaegaa", sum := "8878c55ee4a474fa710e2f38dd02d9df9133d6ba611a73999bb1bd09f7ce09c4", func := "loop.example/g00498/laws.FnExactJoined", spec := "fnExactJoined", inPlace := ["internal/abi.NoEscape", "internal/bytealg.MakeNoZero"], apart := false, narrowed := true }
def FnExactJoinedUptoSaid : Prop := fnExactJoinedUptoRow.holds Try.pinned (OpenSpec.upto fnExactJoinedSpec)

/-- 'laws.FnExactShapeAt', WHERE WHAT IT READS IS OF BULK AT MOST 1048576: true; the input reads as it did. -/
def fnExactShapeAtUptoRow : OpenClaim := { program := "ythnkkogffpaegaa", sum := "8878c55ee4a474fa710e2f38dd02d9df9133d6ba611a73999bb1bd09f7ce09c4", func := "loop.example/g00498/laws.FnExactShapeAt", spec := "fnExactShapeAt", unfollowed := true, recurses := true, apart := false, narrowed := true }
def FnExactShapeAtUptoSaid : Prop := fnExactShapeAtUptoRow.holds Try.pinned (OpenSpec.upto fnExactShapeAtSpec)

/-- 'laws.FnExactFieldAt', WHERE WHAT IT READS IS OF BULK AT MOST 1048576: true; the input reads as it did. -/
def fnExactFieldAtUptoRow : OpenClaim := { program := "ythnkkogffpaegaa", sum := "8878c55ee4a474fa710e2f38dd02d9df9133d6ba611a73999bb1bd09f7ce09c4", func := "loop.example/g00498/laws.FnExactFieldAt", spec := "fnExactFieldAt", apart := false, narrowed := true }
def FnExactFieldAtUptoSaid : Prop := fnExactFieldAtUptoRow.holds Try.pinned (OpenSpec.upto fnExactFieldAtSpec)

/-- 'laws.FnExactSameSchema', WHERE WHAT IT READS IS OF BULK AT MOST 1048576: true; the input reads as it did. -/
def fnExactSameSchemaUptoRow : OpenClaim := { program := "ythnkkogffpaegaa", sum := "8878c55ee4a474fa710e2f38dd02d9df9133d6ba611a73999bb1bd09f7ce09c4", func := "loop.example/g00498/laws.FnExactSameSchema", spec := "fnExactSameSchema", unfollowed := true, recurses := true, apart := false, narrowed := true }
def FnExactSameSchemaUptoSaid : Prop := fnExactSameSchemaUptoRow.holds Try.pinned (OpenSpec.upto fnExactSameSchemaSpec)

/-- 'laws.FnVarWithin', WHERE WHAT IT READS IS OF BULK AT MOST 1048576: true; the input reads as it did. -/
def fnVarWithinUptoRow : OpenClaim := { program := "ythnkkogffpaegaa", sum := "8878c55ee4a474fa710e2f38dd02d9df9133d6ba611a73999bb1bd09f7ce09c4", func := "loop.example/g00498/laws.FnVarWithin", spec := "fnVarWithin", apart := false, narrowed := true }
def FnVarWithinUptoSaid : Prop := fnVarWithinUptoRow.holds Try.pinned (OpenSpec.upto fnVarWithinSpec)

/-- 'laws.FnCut', WHERE WHAT IT READS IS OF BULK AT MOST 1048576: true; the input reads as it did. -/
def fnCutUptoRow : OpenClaim := { program := "ythnkkogffpaegaa", sum := "8878c55ee4a474fa710e2f38dd02d9df9133d6ba611a73999bb1bd09f7ce09c4", func := "loop.example/g00498/laws.FnCut", spec := "fnCut", inPlace := ["internal/abi.NoEscape", "internal/bytealg.MakeNoZero"], apart := false, narrowed := true }
def FnCutUptoSaid : Prop := fnCutUptoRow.holds Try.pinned (OpenSpec.upto fnCutSpec)

end Rows
end Go.Proofs.Ythnkkogffpaegaa

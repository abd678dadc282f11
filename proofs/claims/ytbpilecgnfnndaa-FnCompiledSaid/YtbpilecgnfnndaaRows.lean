/-
  No cell of these rows narrows 'for every input' (looked for: loops, veiled, ifaces, maps, wideKeys, modest, calm, conditions, laid).
  DERIVED. THE GIVEN ROWS OF THIS SEAT. 3 by the template 'for every input the law returns true; each argument reads behind the call as it read before'; 0 by the template 'total and deterministic' (their statements: YtbpilecgnfnndaaTotals.lean).
  GIVEN WITH THE SEED: the statements are not yours to turn. If you find one false, say at which input.
  Laid BY PROGRAM, IN A SANDBOX (cutbox-rows.mjs): the forced cells as the released guide's own fill.sh prints them over the translation e3a3234fb6f4b8a9… (all of the seat's roots in one cut). By AI agents, Wed Nov 11 2026. No macro, syntax, notation, axiom, sorry.
-/
import Derived.Test.YtbpilecgnfnndaaChecked
import GoSem.Claim
import GoSem.ClaimJoined
import GoSem.ClaimMapViews
import Derived.JoinedTies
import Derived.KernelRfl
namespace Go.Proofs.Ytbpilecgnfnndaa
/- THE CELL 'sum', in the pinned program and in every row, IS THE sha256 OF THE DUMP (.gsa) THAT YtbpilecgnfnndaaProg.lean LOADS. Nothing in Lean hashes anything: it is a label: what it is worth is what the hold of that sum in a sandbox is worth. -/
noncomputable def Try.pinned : Pinned := { name := "ytbpilecgnfnndaa", sum := "e3a3234fb6f4b8a9d9ff1a0fe597d15f0fadc446b80a485b5f19ae70c3c75089", checked := Try.checked }
namespace Rows
def none {H : Type} : Left H := { results := [], args := [] }

/-- 'laws.FnCompiled': WHATEVER THE INPUT: true; the input reads as it did. -/
def fnCompiledSpec : ChangeSpec := { name := "fnCompiled", fn := fun _ => fun
  | [d] => { results := [.lit (.bool true)], args := [d] }
  | _ => none }
def fnCompiledRow : OpenClaim := { program := "ytbpilecgnfnndaa", sum := "e3a3234fb6f4b8a9d9ff1a0fe597d15f0fadc446b80a485b5f19ae70c3c75089", func := "loop.example/g00498/laws.FnCompiled", spec := "fnCompiled", unfollowed := true, recurses := true, apart := false }
def FnCompiledSaid : Prop := fnCompiledRow.holds Try.pinned (OpenSpec.ofChange fnCompiledSpec)

/-- ITS FALSE NEIGHBOUR: 'it returns false'. Refute it at one input. -/
def fnCompiledWrong : ChangeSpec := { name := "fnCompiled", fn := fun _ => fun
  | [d] => { results := [.lit (.bool false)], args := [d] }
  | _ => none }
def FnCompiledWrongFalsely : Prop := fnCompiledRow.holds Try.pinned (OpenSpec.ofChange fnCompiledWrong)

/-- 'laws.FnRawBack': WHATEVER THE INPUT: true; the input reads as it did. -/
def fnRawBackSpec : ChangeSpec := { name := "fnRawBack", fn := fun _ => fun
  | [d] => { results := [.lit (.bool true)], args := [d] }
  | _ => none }
def fnRawBackRow : OpenClaim := { program := "ytbpilecgnfnndaa", sum := "e3a3234fb6f4b8a9d9ff1a0fe597d15f0fadc446b80a485b5f19ae70c3c75089", func := "loop.example/g00498/laws.FnRawBack", spec := "fnRawBack", unfollowed := true, recurses := true, apart := false }
def FnRawBackSaid : Prop := fnRawBackRow.holds Try.pinned (OpenSpec.ofChange fnRawBackSpec)

/-- ITS FALSE NEIGHBOUR: 'it returns false'. Refute it at one input. -/
def fnRawBackWrong : ChangeSpec := { name := "fnRawBack", fn := fun _ => fun
  | [d] => { results := [.lit (.bool false)], args := [d] }
  | _ => none }
def FnRawBackWrongFalsely : Prop := fnRawBackRow.holds Try.pinned (OpenSpec.ofChange fnRawBackWrong)

/-- 'laws.FnExactCompile': WHATEVER THE INPUT: true; the input reads as it did. -/
def fnExactCompileSpec : ChangeSpec := { name := "fnExactCompile", fn := fun _ => fun
  | [d] => { results := [.lit (.bool true)], args := [d] }
  | _ => none }
def fnExactCompileRow : OpenClaim := { program := "ytbpilecgnfnndaa", sum := "e3a3234fb6f4b8a9d9ff1a0fe597d15f0fadc446b80a485b5f19ae70c3c75089", func := "loop.example/g00498/laws.FnExactCompile", spec := "fnExactCompile", unfollowed := true, recurses := true, apart := false }
def FnExactCompileSaid : Prop := fnExactCompileRow.holds Try.pinned (OpenSpec.ofChange fnExactCompileSpec)

/-- ITS FALSE NEIGHBOUR: 'it returns false'. Refute it at one input. -/
def fnExactCompileWrong : ChangeSpec := { name := "fnExactCompile", fn := fun _ => fun
  | [d] => { results := [.lit (.bool false)], args := [d] }
  | _ => none }
def FnExactCompileWrongFalsely : Prop := fnExactCompileRow.holds Try.pinned (OpenSpec.ofChange fnExactCompileWrong)

/- THE SECOND FORM. 'bulk': how many values and letters a reading holds, each counted each time it is reached (what is shared counts as often as it is met; a slice's spare places count too). A statement '..UptoSaid' is the law's where the arguments, and the package variables that the reading takes, are together of bulk at most 1048576: NARROWER than '..Said'. Prove '..Said' where nothing that the law and all that it calls make is longer than what came in: it says more and counts as full. Else prove '..UptoSaid'. A law counts once. -/
mutual
def uptoBulk {H : Type} : DataW H → Nat
  | .lit (.string bytes) => bytes.length + 1
  | .lit _ => 1
  | .nil => 1
  | .ptr d => uptoBulk d + 1
  | .slice elems spare => uptoBulkAll elems + uptoBulkAll spare + 1
  | .agg parts => uptoBulkAll parts + 1
  | .iface _ d => uptoBulk d + 1
  | .map entries => uptoBulkEntries entries + 1
  | .held _ => 1
def uptoBulkAll {H : Type} : List (DataW H) → Nat
  | [] => 0
  | d :: r => uptoBulk d + uptoBulkAll r
def uptoBulkEntries {H : Type} : List (Lit × DataW H) → Nat
  | [] => 0
  | x :: r => uptoBulkEntry x + uptoBulkEntries r
def uptoBulkEntry {H : Type} : Lit × DataW H → Nat
  | (.string bytes, d) => bytes.length + uptoBulk d + 1
  | (_, d) => uptoBulk d + 1
 end
def uptoSmall : (H : Type) → List (DataW H) → Bool := fun _ ds => decide (uptoBulkAll ds ≤ 1048576)
def OpenSpec.upto (s : _root_.Go.ChangeSpec) : _root_.Go.OpenSpec := { _root_.Go.OpenSpec.ofChange s with cond := some uptoSmall }

/-- 'laws.FnCompiled', WHERE WHAT IT READS IS OF BULK AT MOST 1048576: true; the input reads as it did. -/
def fnCompiledUptoRow : OpenClaim := { program := "ytbpilecgnfnndaa", sum := "e3a3234fb6f4b8a9d9ff1a0fe597d15f0fadc446b80a485b5f19ae70c3c75089", func := "loop.example/g00498/laws.FnCompiled", spec := "fnCompiled", unfollowed := true, recurses := true, apart := false, narrowed := true }
def FnCompiledUptoSaid : Prop := fnCompiledUptoRow.holds Try.pinned (OpenSpec.upto fnCompiledSpec)

/-- 'laws.FnRawBack', WHERE WHAT IT READS IS OF BULK AT MOST 1048576: true; the input reads as it did. -/
def fnRawBackUptoRow : OpenClaim := { program := "ytbpilecgnfnndaa", sum := "e3a3234fb6f4b8a9d9ff1a0fe597d15f0fadc446b80a485b5f19ae70c3c75089", func := "loop.example/g00498/laws.FnRawBack", spec := "fnRawBack", unfollowed := true, recurses := true, apart := false, narrowed := true }
def FnRawBackUptoSaid : Prop := fnRawBackUptoRow.holds Try.pinned (OpenSpec.upto fnRawBackSpec)

/-- 'laws.FnExactCompile', WHERE WHAT IT READS IS OF BULK AT MOST 1048576: true; the input reads as it did. -/
def fnExactCompileUptoRow : OpenClaim := { program := "ytbpilecgnfnndaa", sum := "e3a3234fb6f4b8a9d9ff1a0fe597d15f0fadc446b80a485b5f19ae70c3c75089", func := "loop.example/g00498/laws.FnExactCompile", spec := "fnExactCompile", unfollowed := true, recurses := true, apart := false, narrowed := true }
def FnExactCompileUptoSaid : Prop := fnExactCompileUptoRow.holds Try.pinned (OpenSpec.upto fnExactCompileSpec)

end Rows
end Go.Proofs.Ytbpilecgnfnndaa

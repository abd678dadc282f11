/-
  DERIVED. GIVEN WITH THE SEED: THE CARDS: each row of YtbpilecgnfnndaaDoorRows.lean that lists a variable, with what it lists TIED to the program's text (the seventh form; the later family's looks); each row that meets fmt, with fmt's text TOLD by the authors' own Lean function (tested against real Go, not proved from fmt's source: count such statements apart). THE CARD IS WHAT COUNTS. Prove the row's statement (the work); the ties are given (YtbpilecgnfnndaaDoorTie.lean); close each card by the builder's one call (the guide's Derived/Test/ToyasCard.lean, 'card_holds'). Laid BY PROGRAM, IN A SANDBOX (cutbox-door.mjs). By AI agents, Wed Nov 11 2026. No macro, syntax, notation, axiom, sorry.
-/
import Derived.Test.YtbpilecgnfnndaaDoorRows
import GoSem.ClaimSeven
namespace Go.Proofs.YtbpilecgnfnndaaDoor
namespace Rows

/-- THE TIED CARD OF 'laws.FnExactFieldText'. -/
def fnExactFieldTextCard : Claim7 := { stood := { row := fnExactFieldTextRow, standIns := [], harness := (true, "fcd8ac1ca421c06e49d0f3401219ce30f0e6f3f6342ec0fef69aa1e18ce367f7"), looks := true }, kinds := [], alts := [], laidByText := true, laidKinds := [.data, .data, .data], laidTests := true, laidLooks := .later }
def FnExactFieldTextCardSaid : Prop := Claim7.holds Tryd.pinned (.plain (OpenSpec.ofChange fnExactFieldTextSpec)) fnExactFieldTextCard

/-- THE TIED CARD OF 'laws.FnExactRawText'. -/
def fnExactRawTextCard : Claim7 := { stood := { row := fnExactRawTextRow, standIns := [], harness := (true, "fcd8ac1ca421c06e49d0f3401219ce30f0e6f3f6342ec0fef69aa1e18ce367f7"), looks := true }, kinds := [], alts := [], laidByText := true, laidKinds := [.data, .data, .data], laidTests := true, laidLooks := .later }
def FnExactRawTextCardSaid : Prop := Claim7.holds Tryd.pinned (.plain (OpenSpec.ofChange fnExactRawTextSpec)) fnExactRawTextCard

/-- THE TIED CARD OF 'laws.FnExactReadField'. -/
def fnExactReadFieldCard : Claim7 := { stood := { row := fnExactReadFieldRow, standIns := [], harness := (true, "fcd8ac1ca421c06e49d0f3401219ce30f0e6f3f6342ec0fef69aa1e18ce367f7"), looks := true }, kinds := [], alts := [], laidByText := true, laidKinds := [.data, .data, .data, .data, .sentinel, .sentinel, .pinned], laidTests := true, laidLooks := .later }
def FnExactReadFieldCardSaid : Prop := Claim7.holds Tryd.pinned (.plain (OpenSpec.ofChange fnExactReadFieldSpec)) fnExactReadFieldCard

/-- THE TIED CARD OF 'laws.FnFieldText'. -/
def fnFieldTextCard : Claim7 := { stood := { row := fnFieldTextRow, standIns := [], harness := (true, "fcd8ac1ca421c06e49d0f3401219ce30f0e6f3f6342ec0fef69aa1e18ce367f7"), looks := true }, kinds := [], alts := [], laidByText := true, laidKinds := [.data, .data, .data, .data, .sentinel, .sentinel, .pinned], laidTests := true, laidLooks := .later }
def FnFieldTextCardSaid : Prop := Claim7.holds Tryd.pinned (.plain (OpenSpec.ofChange fnFieldTextSpec)) fnFieldTextCard

/-- THE SECOND FORM's CARD OF 'laws.FnExactFieldText'. -/
def fnExactFieldTextUptoCard : Claim7 := { stood := { row := fnExactFieldTextUptoRow, standIns := [], harness := (true, "fcd8ac1ca421c06e49d0f3401219ce30f0e6f3f6342ec0fef69aa1e18ce367f7"), looks := true }, kinds := [], alts := [], laidByText := true, laidKinds := [.data, .data, .data], laidTests := true, laidLooks := .later }
def FnExactFieldTextUptoCardSaid : Prop := Claim7.holds Tryd.pinned (.plain (OpenSpec.upto fnExactFieldTextSpec)) fnExactFieldTextUptoCard

/-- THE SECOND FORM's CARD OF 'laws.FnExactRawText'. -/
def fnExactRawTextUptoCard : Claim7 := { stood := { row := fnExactRawTextUptoRow, standIns := [], harness := (true, "fcd8ac1ca421c06e49d0f3401219ce30f0e6f3f6342ec0fef69aa1e18ce367f7"), looks := true }, kinds := [], alts := [], laidByText := true, laidKinds := [.data, .data, .data], laidTests := true, laidLooks := .later }
def FnExactRawTextUptoCardSaid : Prop := Claim7.holds Tryd.pinned (.plain (OpenSpec.upto fnExactRawTextSpec)) fnExactRawTextUptoCard

/-- THE SECOND FORM's CARD OF 'laws.FnExactReadField'. -/
def fnExactReadFieldUptoCard : Claim7 := { stood := { row := fnExactReadFieldUptoRow, standIns := [], harness := (true, "fcd8ac1ca421c06e49d0f3401219ce30f0e6f3f6342ec0fef69aa1e18ce367f7"), looks := true }, kinds := [], alts := [], laidByText := true, laidKinds := [.data, .data, .data, .data, .sentinel, .sentinel, .pinned], laidTests := true, laidLooks := .later }
def FnExactReadFieldUptoCardSaid : Prop := Claim7.holds Tryd.pinned (.plain (OpenSpec.upto fnExactReadFieldSpec)) fnExactReadFieldUptoCard

/-- THE SECOND FORM's CARD OF 'laws.FnFieldText'. -/
def fnFieldTextUptoCard : Claim7 := { stood := { row := fnFieldTextUptoRow, standIns := [], harness := (true, "fcd8ac1ca421c06e49d0f3401219ce30f0e6f3f6342ec0fef69aa1e18ce367f7"), looks := true }, kinds := [], alts := [], laidByText := true, laidKinds := [.data, .data, .data, .data, .sentinel, .sentinel, .pinned], laidTests := true, laidLooks := .later }
def FnFieldTextUptoCardSaid : Prop := Claim7.holds Tryd.pinned (.plain (OpenSpec.upto fnFieldTextSpec)) fnFieldTextUptoCard
end Rows
end Go.Proofs.YtbpilecgnfnndaaDoor

/-
  DERIVED. GIVEN WITH THE SEED: THE CARDS: each row of YtbjbgneiglopmaaGreatDoorRows.lean that lists a variable, with what it lists TIED to the program's text (the seventh form; the later family's looks); each row that meets fmt, with fmt's text TOLD by the authors' own Lean function (tested against real Go, not proved from fmt's source: count such statements apart). THE CARD IS WHAT COUNTS. Prove the row's statement (the work); the ties are given (YtbjbgneiglopmaaGreatDoorTie.lean); close each card by the builder's one call (the guide's Derived/Test/ToyasCard.lean, 'card_holds'). Laid BY PROGRAM, IN A SANDBOX (cutbox-door.mjs). By AI agents, Wed Nov 11 2026. No macro, syntax, notation, axiom, sorry.
-/
import Derived.Test.YtbjbgneiglopmaaGreatDoorRows
import GoSem.ClaimSeven
namespace Go.Proofs.YtbjbgneiglopmaaGreatDoor
namespace Rows

/-- THE TIED CARD OF 'laws.FnExactReadRaw'. -/
def fnExactReadRawCard : Claim7 := { stood := { row := fnExactReadRawRow, standIns := [], harness := (true, "821e79c5559f6c964b8c42a6f5f1d274b0ba5f85ff794589a9ee90356c6e6ed0"), looks := true }, kinds := [], alts := [], laidByText := true, laidKinds := [.data, .data, .data, .data, .sentinel, .sentinel, .pinned], laidTests := true, laidLooks := .later }
def FnExactReadRawCardSaid : Prop := Claim7.holds Tryz.pinned (.plain (OpenSpec.ofChange fnExactReadRawSpec)) fnExactReadRawCard

/-- THE TIED CARD OF 'laws.FnRawText'. -/
def fnRawTextCard : Claim7 := { stood := { row := fnRawTextRow, standIns := [], harness := (true, "821e79c5559f6c964b8c42a6f5f1d274b0ba5f85ff794589a9ee90356c6e6ed0"), looks := true }, kinds := [], alts := [], laidByText := true, laidKinds := [.data, .data, .data, .data, .sentinel, .sentinel, .pinned], laidTests := true, laidLooks := .later }
def FnRawTextCardSaid : Prop := Claim7.holds Tryz.pinned (.plain (OpenSpec.ofChange fnRawTextSpec)) fnRawTextCard

/-- THE SECOND FORM's CARD OF 'laws.FnExactReadRaw'. -/
def fnExactReadRawUptoCard : Claim7 := { stood := { row := fnExactReadRawUptoRow, standIns := [], harness := (true, "821e79c5559f6c964b8c42a6f5f1d274b0ba5f85ff794589a9ee90356c6e6ed0"), looks := true }, kinds := [], alts := [], laidByText := true, laidKinds := [.data, .data, .data, .data, .sentinel, .sentinel, .pinned], laidTests := true, laidLooks := .later }
def FnExactReadRawUptoCardSaid : Prop := Claim7.holds Tryz.pinned (.plain (OpenSpec.upto fnExactReadRawSpec)) fnExactReadRawUptoCard

/-- THE SECOND FORM's CARD OF 'laws.FnRawText'. -/
def fnRawTextUptoCard : Claim7 := { stood := { row := fnRawTextUptoRow, standIns := [], harness := (true, "821e79c5559f6c964b8c42a6f5f1d274b0ba5f85ff794589a9ee90356c6e6ed0"), looks := true }, kinds := [], alts := [], laidByText := true, laidKinds := [.data, .data, .data, .data, .sentinel, .sentinel, .pinned], laidTests := true, laidLooks := .later }
def FnRawTextUptoCardSaid : Prop := Claim7.holds Tryz.pinned (.plain (OpenSpec.upto fnRawTextSpec)) fnRawTextUptoCard
end Rows
end Go.Proofs.YtbjbgneiglopmaaGreatDoor

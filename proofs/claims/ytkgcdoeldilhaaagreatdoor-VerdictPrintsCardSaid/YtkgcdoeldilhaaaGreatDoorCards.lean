/-
  DERIVED. GIVEN WITH THE SEED: THE CARDS: each row of YtkgcdoeldilhaaaGreatDoorRows.lean that lists a variable, with what it lists TIED to the program's text (the seventh form; the later family's looks); each row that meets fmt, with fmt's text TOLD by the authors' own Lean function (tested against real Go, not proved from fmt's source: count such statements apart). THE CARD IS WHAT COUNTS. Prove the row's statement (the work); the ties are given (YtkgcdoeldilhaaaGreatDoorTie.lean); close each card by the builder's one call (the guide's Derived/Test/ToyasCard.lean, 'card_holds'). Laid BY PROGRAM, IN A SANDBOX (cutbox-door.mjs). By AI agents, Wed Nov 11 2026. No macro, syntax, notation, axiom, sorry.
-/
import Derived.Test.YtkgcdoeldilhaaaGreatDoorRows
import GoSem.ClaimSeven
namespace Go.Proofs.YtkgcdoeldilhaaaGreatDoor
namespace Rows

/-- THE TIED CARD OF 'replevinlaw39.VerdictReads'. -/
def verdictReadsCard : Claim7 := { stood := { row := verdictReadsRow, standIns := [], harness := (true, "248276dda677ca825e23d86bb3dcc0e35b277fa75cf1e24ff3514a76f219ca3b"), looks := false }, kinds := [], alts := [], laidByText := true, laidKinds := [.data, .data, .data], laidTests := true, laidLooks := .later }
def VerdictReadsCardSaid : Prop := Claim7.holds Tryz.pinned (.plain (OpenSpec.ofChange verdictReadsSpec)) verdictReadsCard

/-- THE TIED CARD OF 'replevinlaw39.VerdictPrints'. -/
def verdictPrintsCard : Claim7 := { stood := { row := verdictPrintsRow, standIns := [], harness := (true, "248276dda677ca825e23d86bb3dcc0e35b277fa75cf1e24ff3514a76f219ca3b"), looks := false }, kinds := [], alts := [], laidByText := true, laidKinds := [.data, .data, .data], laidTests := true, laidLooks := .later }
def VerdictPrintsCardSaid : Prop := Claim7.holds Tryz.pinned (.plain (OpenSpec.ofChange verdictPrintsSpec)) verdictPrintsCard

/-- THE SECOND FORM's CARD OF 'replevinlaw39.VerdictReads'. -/
def verdictReadsUptoCard : Claim7 := { stood := { row := verdictReadsUptoRow, standIns := [], harness := (true, "248276dda677ca825e23d86bb3dcc0e35b277fa75cf1e24ff3514a76f219ca3b"), looks := false }, kinds := [], alts := [], laidByText := true, laidKinds := [.data, .data, .data], laidTests := true, laidLooks := .later }
def VerdictReadsUptoCardSaid : Prop := Claim7.holds Tryz.pinned (.plain (OpenSpec.upto verdictReadsSpec)) verdictReadsUptoCard

/-- THE SECOND FORM's CARD OF 'replevinlaw39.VerdictPrints'. -/
def verdictPrintsUptoCard : Claim7 := { stood := { row := verdictPrintsUptoRow, standIns := [], harness := (true, "248276dda677ca825e23d86bb3dcc0e35b277fa75cf1e24ff3514a76f219ca3b"), looks := false }, kinds := [], alts := [], laidByText := true, laidKinds := [.data, .data, .data], laidTests := true, laidLooks := .later }
def VerdictPrintsUptoCardSaid : Prop := Claim7.holds Tryz.pinned (.plain (OpenSpec.upto verdictPrintsSpec)) verdictPrintsUptoCard
end Rows
end Go.Proofs.YtkgcdoeldilhaaaGreatDoor

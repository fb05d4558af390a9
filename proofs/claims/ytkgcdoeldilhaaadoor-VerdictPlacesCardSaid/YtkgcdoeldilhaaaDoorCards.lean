/-
  DERIVED. GIVEN WITH THE SEED: THE CARDS: each row of YtkgcdoeldilhaaaDoorRows.lean that lists a variable, with what it lists TIED to the program's text (the seventh form; the later family's looks); each row that meets fmt, with fmt's text TOLD by the authors' own Lean function (tested against real Go, not proved from fmt's source: count such statements apart). THE CARD IS WHAT COUNTS. Prove the row's statement (the work); the ties are given (YtkgcdoeldilhaaaDoorTie.lean); close each card by the builder's one call (the guide's Derived/Test/ToyasCard.lean, 'card_holds'). Laid BY PROGRAM, IN A SANDBOX (cutbox-door.mjs). By AI agents, Wed Nov 11 2026. No macro, syntax, notation, axiom, sorry.
-/
import Derived.Test.YtkgcdoeldilhaaaDoorRows
import GoSem.ClaimSeven
namespace Go.Proofs.YtkgcdoeldilhaaaDoor
namespace Rows

/-- THE TIED CARD OF 'replevinlaw39.VerdictBack'. -/
def verdictBackCard : Claim7 := { stood := { row := verdictBackRow, standIns := [], harness := (true, "d7f046616a8bdcf6d9695b200dd5a5228505178b1e36573da6b300a658eb4bc1"), looks := false }, kinds := [], alts := [], laidByText := true, laidKinds := [.data, .data, .data], laidTests := true, laidLooks := .later }
def VerdictBackCardSaid : Prop := Claim7.holds Tryd.pinned (.plain (OpenSpec.ofChange verdictBackSpec)) verdictBackCard

/-- THE TIED CARD OF 'replevinlaw39.VerdictPlaces'. -/
def verdictPlacesCard : Claim7 := { stood := { row := verdictPlacesRow, standIns := [], harness := (true, "d7f046616a8bdcf6d9695b200dd5a5228505178b1e36573da6b300a658eb4bc1"), looks := false }, kinds := [], alts := [], laidByText := true, laidKinds := [.data, .data, .data], laidTests := true, laidLooks := .later }
def VerdictPlacesCardSaid : Prop := Claim7.holds Tryd.pinned (.plain (OpenSpec.ofChange verdictPlacesSpec)) verdictPlacesCard

/-- THE SECOND FORM's CARD OF 'replevinlaw39.VerdictBack'. -/
def verdictBackUptoCard : Claim7 := { stood := { row := verdictBackUptoRow, standIns := [], harness := (true, "d7f046616a8bdcf6d9695b200dd5a5228505178b1e36573da6b300a658eb4bc1"), looks := false }, kinds := [], alts := [], laidByText := true, laidKinds := [.data, .data, .data], laidTests := true, laidLooks := .later }
def VerdictBackUptoCardSaid : Prop := Claim7.holds Tryd.pinned (.plain (OpenSpec.upto verdictBackSpec)) verdictBackUptoCard

/-- THE SECOND FORM's CARD OF 'replevinlaw39.VerdictPlaces'. -/
def verdictPlacesUptoCard : Claim7 := { stood := { row := verdictPlacesUptoRow, standIns := [], harness := (true, "d7f046616a8bdcf6d9695b200dd5a5228505178b1e36573da6b300a658eb4bc1"), looks := false }, kinds := [], alts := [], laidByText := true, laidKinds := [.data, .data, .data], laidTests := true, laidLooks := .later }
def VerdictPlacesUptoCardSaid : Prop := Claim7.holds Tryd.pinned (.plain (OpenSpec.upto verdictPlacesSpec)) verdictPlacesUptoCard
end Rows
end Go.Proofs.YtkgcdoeldilhaaaDoor

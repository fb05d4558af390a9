/-
  DERIVED. GIVEN WITH THE SEED: THE CARDS: each row of YtohbpcjnilefbaaDoorRows.lean that lists a variable, with what it lists TIED to the program's text (the seventh form; the later family's looks); each row that meets fmt, with fmt's text TOLD by the authors' own Lean function (tested against real Go, not proved from fmt's source: count such statements apart). THE CARD IS WHAT COUNTS. Prove the row's statement (the work); the ties are given (YtohbpcjnilefbaaDoorTie.lean); close each card by the builder's one call (the guide's Derived/Test/ToyasCard.lean, 'card_holds'). Laid BY PROGRAM, IN A SANDBOX (cutbox-door.mjs). By AI agents, Wed Nov 11 2026. No macro, syntax, notation, axiom, sorry.
-/
import Derived.Test.YtohbpcjnilefbaaDoorRows
import GoSem.ClaimSeven
namespace Go.Proofs.YtohbpcjnilefbaaDoor
namespace Rows

/-- THE TIED CARD OF 'replevinlaw05.TokenTells'. -/
def tokenTellsCard : Claim7 := { stood := { row := tokenTellsRow, standIns := [], harness := (true, "bd63799ae449338d605cfcb586033609ed9eeb949bb307298bfb44ce09cd04df"), looks := false }, kinds := [], alts := [], laidByText := true, laidKinds := [.data, .data, .data], laidTests := true, laidLooks := .later }
def TokenTellsCardSaid : Prop := Claim7.holds Tryd.pinned (.plain (OpenSpec.ofChange tokenTellsSpec)) tokenTellsCard

/-- THE TIED CARD OF 'replevinlaw05.TokenCounts'. -/
def tokenCountsCard : Claim7 := { stood := { row := tokenCountsRow, standIns := [], harness := (true, "bd63799ae449338d605cfcb586033609ed9eeb949bb307298bfb44ce09cd04df"), looks := false }, kinds := [], alts := [], laidByText := true, laidKinds := [.data, .data, .data], laidTests := true, laidLooks := .later }
def TokenCountsCardSaid : Prop := Claim7.holds Tryd.pinned (.plain (OpenSpec.ofChange tokenCountsSpec)) tokenCountsCard

/-- THE TIED CARD OF 'replevinlaw05.TokenWhole'. -/
def tokenWholeCard : Claim7 := { stood := { row := tokenWholeRow, standIns := [], harness := (true, "bd63799ae449338d605cfcb586033609ed9eeb949bb307298bfb44ce09cd04df"), looks := false }, kinds := [], alts := [], laidByText := true, laidKinds := [.data, .data, .data], laidTests := true, laidLooks := .later }
def TokenWholeCardSaid : Prop := Claim7.holds Tryd.pinned (.plain (OpenSpec.ofChange tokenWholeSpec)) tokenWholeCard

/-- THE TIED CARD OF 'replevinlaw05.TokenNumbers'. -/
def tokenNumbersCard : Claim7 := { stood := { row := tokenNumbersRow, standIns := [], harness := (true, "bd63799ae449338d605cfcb586033609ed9eeb949bb307298bfb44ce09cd04df"), looks := false }, kinds := [], alts := [], laidByText := true, laidKinds := [.data, .data, .data], laidTests := true, laidLooks := .later }
def TokenNumbersCardSaid : Prop := Claim7.holds Tryd.pinned (.plain (OpenSpec.ofChange tokenNumbersSpec)) tokenNumbersCard

/-- THE TIED CARD OF 'replevinlaw06.DimacsReads'. -/
def dimacsReadsCard : Claim7 := { stood := { row := dimacsReadsRow, standIns := [], harness := (true, "bd63799ae449338d605cfcb586033609ed9eeb949bb307298bfb44ce09cd04df"), looks := false }, kinds := [], alts := [], laidByText := true, laidKinds := [.data, .data, .data], laidTests := true, laidLooks := .later }
def DimacsReadsCardSaid : Prop := Claim7.holds Tryd.pinned (.plain (OpenSpec.ofChange dimacsReadsSpec)) dimacsReadsCard

/-- THE TIED CARD OF 'replevinlaw06.DimacsPrints'. -/
def dimacsPrintsCard : Claim7 := { stood := { row := dimacsPrintsRow, standIns := [], harness := (true, "bd63799ae449338d605cfcb586033609ed9eeb949bb307298bfb44ce09cd04df"), looks := false }, kinds := [], alts := [], laidByText := true, laidKinds := [.data, .data, .data], laidTests := true, laidLooks := .later }
def DimacsPrintsCardSaid : Prop := Claim7.holds Tryd.pinned (.plain (OpenSpec.ofChange dimacsPrintsSpec)) dimacsPrintsCard

/-- THE TIED CARD OF 'replevinlaw06.DimacsPlaces'. -/
def dimacsPlacesCard : Claim7 := { stood := { row := dimacsPlacesRow, standIns := [], harness := (true, "bd63799ae449338d605cfcb586033609ed9eeb949bb307298bfb44ce09cd04df"), looks := false }, kinds := [], alts := [], laidByText := true, laidKinds := [.data, .data, .data], laidTests := true, laidLooks := .later }
def DimacsPlacesCardSaid : Prop := Claim7.holds Tryd.pinned (.plain (OpenSpec.ofChange dimacsPlacesSpec)) dimacsPlacesCard

/-- THE TIED CARD OF 'replevinlaw06.DimacsBack'. -/
def dimacsBackCard : Claim7 := { stood := { row := dimacsBackRow, standIns := [], harness := (true, "bd63799ae449338d605cfcb586033609ed9eeb949bb307298bfb44ce09cd04df"), looks := false }, kinds := [], alts := [], laidByText := true, laidKinds := [.data, .data, .data], laidTests := true, laidLooks := .later }
def DimacsBackCardSaid : Prop := Claim7.holds Tryd.pinned (.plain (OpenSpec.ofChange dimacsBackSpec)) dimacsBackCard

/-- THE TIED CARD OF 'replevinlaw10.ProofReads'. -/
def proofReadsCard : Claim7 := { stood := { row := proofReadsRow, standIns := [], harness := (true, "bd63799ae449338d605cfcb586033609ed9eeb949bb307298bfb44ce09cd04df"), looks := false }, kinds := [], alts := [], laidByText := true, laidKinds := [.data, .data, .data], laidTests := true, laidLooks := .later }
def ProofReadsCardSaid : Prop := Claim7.holds Tryd.pinned (.plain (OpenSpec.ofChange proofReadsSpec)) proofReadsCard

/-- THE TIED CARD OF 'replevinlaw10.ProofPrints'. -/
def proofPrintsCard : Claim7 := { stood := { row := proofPrintsRow, standIns := [], harness := (true, "bd63799ae449338d605cfcb586033609ed9eeb949bb307298bfb44ce09cd04df"), looks := false }, kinds := [], alts := [], laidByText := true, laidKinds := [.data, .data, .data], laidTests := true, laidLooks := .later }
def ProofPrintsCardSaid : Prop := Claim7.holds Tryd.pinned (.plain (OpenSpec.ofChange proofPrintsSpec)) proofPrintsCard

/-- THE TIED CARD OF 'replevinlaw10.ProofBack'. -/
def proofBackCard : Claim7 := { stood := { row := proofBackRow, standIns := [], harness := (true, "bd63799ae449338d605cfcb586033609ed9eeb949bb307298bfb44ce09cd04df"), looks := false }, kinds := [], alts := [], laidByText := true, laidKinds := [.data, .data, .data], laidTests := true, laidLooks := .later }
def ProofBackCardSaid : Prop := Claim7.holds Tryd.pinned (.plain (OpenSpec.ofChange proofBackSpec)) proofBackCard

/-- THE TIED CARD OF 'replevinlaw10.ProofPlaces'. -/
def proofPlacesCard : Claim7 := { stood := { row := proofPlacesRow, standIns := [], harness := (true, "bd63799ae449338d605cfcb586033609ed9eeb949bb307298bfb44ce09cd04df"), looks := false }, kinds := [], alts := [], laidByText := true, laidKinds := [.data, .data, .data], laidTests := true, laidLooks := .later }
def ProofPlacesCardSaid : Prop := Claim7.holds Tryd.pinned (.plain (OpenSpec.ofChange proofPlacesSpec)) proofPlacesCard

/-- THE SECOND FORM's CARD OF 'replevinlaw05.TokenTells'. -/
def tokenTellsUptoCard : Claim7 := { stood := { row := tokenTellsUptoRow, standIns := [], harness := (true, "bd63799ae449338d605cfcb586033609ed9eeb949bb307298bfb44ce09cd04df"), looks := false }, kinds := [], alts := [], laidByText := true, laidKinds := [.data, .data, .data], laidTests := true, laidLooks := .later }
def TokenTellsUptoCardSaid : Prop := Claim7.holds Tryd.pinned (.plain (OpenSpec.upto tokenTellsSpec)) tokenTellsUptoCard

/-- THE SECOND FORM's CARD OF 'replevinlaw05.TokenCounts'. -/
def tokenCountsUptoCard : Claim7 := { stood := { row := tokenCountsUptoRow, standIns := [], harness := (true, "bd63799ae449338d605cfcb586033609ed9eeb949bb307298bfb44ce09cd04df"), looks := false }, kinds := [], alts := [], laidByText := true, laidKinds := [.data, .data, .data], laidTests := true, laidLooks := .later }
def TokenCountsUptoCardSaid : Prop := Claim7.holds Tryd.pinned (.plain (OpenSpec.upto tokenCountsSpec)) tokenCountsUptoCard

/-- THE SECOND FORM's CARD OF 'replevinlaw05.TokenWhole'. -/
def tokenWholeUptoCard : Claim7 := { stood := { row := tokenWholeUptoRow, standIns := [], harness := (true, "bd63799ae449338d605cfcb586033609ed9eeb949bb307298bfb44ce09cd04df"), looks := false }, kinds := [], alts := [], laidByText := true, laidKinds := [.data, .data, .data], laidTests := true, laidLooks := .later }
def TokenWholeUptoCardSaid : Prop := Claim7.holds Tryd.pinned (.plain (OpenSpec.upto tokenWholeSpec)) tokenWholeUptoCard

/-- THE SECOND FORM's CARD OF 'replevinlaw05.TokenNumbers'. -/
def tokenNumbersUptoCard : Claim7 := { stood := { row := tokenNumbersUptoRow, standIns := [], harness := (true, "bd63799ae449338d605cfcb586033609ed9eeb949bb307298bfb44ce09cd04df"), looks := false }, kinds := [], alts := [], laidByText := true, laidKinds := [.data, .data, .data], laidTests := true, laidLooks := .later }
def TokenNumbersUptoCardSaid : Prop := Claim7.holds Tryd.pinned (.plain (OpenSpec.upto tokenNumbersSpec)) tokenNumbersUptoCard

/-- THE SECOND FORM's CARD OF 'replevinlaw06.DimacsReads'. -/
def dimacsReadsUptoCard : Claim7 := { stood := { row := dimacsReadsUptoRow, standIns := [], harness := (true, "bd63799ae449338d605cfcb586033609ed9eeb949bb307298bfb44ce09cd04df"), looks := false }, kinds := [], alts := [], laidByText := true, laidKinds := [.data, .data, .data], laidTests := true, laidLooks := .later }
def DimacsReadsUptoCardSaid : Prop := Claim7.holds Tryd.pinned (.plain (OpenSpec.upto dimacsReadsSpec)) dimacsReadsUptoCard

/-- THE SECOND FORM's CARD OF 'replevinlaw06.DimacsPrints'. -/
def dimacsPrintsUptoCard : Claim7 := { stood := { row := dimacsPrintsUptoRow, standIns := [], harness := (true, "bd63799ae449338d605cfcb586033609ed9eeb949bb307298bfb44ce09cd04df"), looks := false }, kinds := [], alts := [], laidByText := true, laidKinds := [.data, .data, .data], laidTests := true, laidLooks := .later }
def DimacsPrintsUptoCardSaid : Prop := Claim7.holds Tryd.pinned (.plain (OpenSpec.upto dimacsPrintsSpec)) dimacsPrintsUptoCard

/-- THE SECOND FORM's CARD OF 'replevinlaw06.DimacsPlaces'. -/
def dimacsPlacesUptoCard : Claim7 := { stood := { row := dimacsPlacesUptoRow, standIns := [], harness := (true, "bd63799ae449338d605cfcb586033609ed9eeb949bb307298bfb44ce09cd04df"), looks := false }, kinds := [], alts := [], laidByText := true, laidKinds := [.data, .data, .data], laidTests := true, laidLooks := .later }
def DimacsPlacesUptoCardSaid : Prop := Claim7.holds Tryd.pinned (.plain (OpenSpec.upto dimacsPlacesSpec)) dimacsPlacesUptoCard

/-- THE SECOND FORM's CARD OF 'replevinlaw06.DimacsBack'. -/
def dimacsBackUptoCard : Claim7 := { stood := { row := dimacsBackUptoRow, standIns := [], harness := (true, "bd63799ae449338d605cfcb586033609ed9eeb949bb307298bfb44ce09cd04df"), looks := false }, kinds := [], alts := [], laidByText := true, laidKinds := [.data, .data, .data], laidTests := true, laidLooks := .later }
def DimacsBackUptoCardSaid : Prop := Claim7.holds Tryd.pinned (.plain (OpenSpec.upto dimacsBackSpec)) dimacsBackUptoCard

/-- THE SECOND FORM's CARD OF 'replevinlaw10.ProofReads'. -/
def proofReadsUptoCard : Claim7 := { stood := { row := proofReadsUptoRow, standIns := [], harness := (true, "bd63799ae449338d605cfcb586033609ed9eeb949bb307298bfb44ce09cd04df"), looks := false }, kinds := [], alts := [], laidByText := true, laidKinds := [.data, .data, .data], laidTests := true, laidLooks := .later }
def ProofReadsUptoCardSaid : Prop := Claim7.holds Tryd.pinned (.plain (OpenSpec.upto proofReadsSpec)) proofReadsUptoCard

/-- THE SECOND FORM's CARD OF 'replevinlaw10.ProofPrints'. -/
def proofPrintsUptoCard : Claim7 := { stood := { row := proofPrintsUptoRow, standIns := [], harness := (true, "bd63799ae449338d605cfcb586033609ed9eeb949bb307298bfb44ce09cd04df"), looks := false }, kinds := [], alts := [], laidByText := true, laidKinds := [.data, .data, .data], laidTests := true, laidLooks := .later }
def ProofPrintsUptoCardSaid : Prop := Claim7.holds Tryd.pinned (.plain (OpenSpec.upto proofPrintsSpec)) proofPrintsUptoCard

/-- THE SECOND FORM's CARD OF 'replevinlaw10.ProofBack'. -/
def proofBackUptoCard : Claim7 := { stood := { row := proofBackUptoRow, standIns := [], harness := (true, "bd63799ae449338d605cfcb586033609ed9eeb949bb307298bfb44ce09cd04df"), looks := false }, kinds := [], alts := [], laidByText := true, laidKinds := [.data, .data, .data], laidTests := true, laidLooks := .later }
def ProofBackUptoCardSaid : Prop := Claim7.holds Tryd.pinned (.plain (OpenSpec.upto proofBackSpec)) proofBackUptoCard

/-- THE SECOND FORM's CARD OF 'replevinlaw10.ProofPlaces'. -/
def proofPlacesUptoCard : Claim7 := { stood := { row := proofPlacesUptoRow, standIns := [], harness := (true, "bd63799ae449338d605cfcb586033609ed9eeb949bb307298bfb44ce09cd04df"), looks := false }, kinds := [], alts := [], laidByText := true, laidKinds := [.data, .data, .data], laidTests := true, laidLooks := .later }
def ProofPlacesUptoCardSaid : Prop := Claim7.holds Tryd.pinned (.plain (OpenSpec.upto proofPlacesSpec)) proofPlacesUptoCard
end Rows
end Go.Proofs.YtohbpcjnilefbaaDoor

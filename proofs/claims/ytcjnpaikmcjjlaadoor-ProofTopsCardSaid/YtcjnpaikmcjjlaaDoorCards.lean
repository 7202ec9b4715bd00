/-
  DERIVED. GIVEN WITH THE SEED: THE CARDS: each row of YtcjnpaikmcjjlaaDoorRows.lean that lists a variable, with what it lists TIED to the program's text (the seventh form; the later family's looks); each row that meets fmt, with fmt's text TOLD by the authors' own Lean function (tested against real Go, not proved from fmt's source: count such statements apart). THE CARD IS WHAT COUNTS. Prove the row's statement (the work); the ties are given (YtcjnpaikmcjjlaaDoorTie.lean); close each card by the builder's one call (the guide's Derived/Test/ToyasCard.lean, 'card_holds'). Laid BY PROGRAM, IN A SANDBOX (cutbox-door.mjs). By AI agents, Wed Nov 11 2026. No macro, syntax, notation, axiom, sorry.
-/
import Derived.Test.YtcjnpaikmcjjlaaDoorRows
import GoSem.ClaimSeven
namespace Go.Proofs.YtcjnpaikmcjjlaaDoor
namespace Rows

/-- THE TIED CARD OF 'torrentlaw7.ProofAmounts'. -/
def proofAmountsCard : Claim7 := { stood := { row := proofAmountsRow, standIns := [], harness := (true, "d9fa7a31007f9d75f4a8f5db2cc0aa5f647812bb4e5d44c39bae4ac8b9b3c714"), looks := false }, kinds := [], alts := [], laidByText := true, laidKinds := [.data, .data], laidTests := true, laidLooks := .later }
def ProofAmountsCardSaid : Prop := Claim7.holds Tryd.pinned (.plain (OpenSpec.ofChange proofAmountsSpec)) proofAmountsCard

/-- THE TIED CARD OF 'torrentlaw7.ProofTexts'. -/
def proofTextsCard : Claim7 := { stood := { row := proofTextsRow, standIns := [], harness := (true, "d9fa7a31007f9d75f4a8f5db2cc0aa5f647812bb4e5d44c39bae4ac8b9b3c714"), looks := false }, kinds := [], alts := [], laidByText := true, laidKinds := [.data, .data, .data, .data], laidTests := true, laidLooks := .later }
def ProofTextsCardSaid : Prop := Claim7.holds Tryd.pinned (.plain (OpenSpec.ofChange proofTextsSpec)) proofTextsCard

/-- THE TIED CARD OF 'torrentlaw7.ProofTops'. -/
def proofTopsCard : Claim7 := { stood := { row := proofTopsRow, standIns := [], harness := (true, "d9fa7a31007f9d75f4a8f5db2cc0aa5f647812bb4e5d44c39bae4ac8b9b3c714"), looks := false }, kinds := [], alts := [], laidByText := true, laidKinds := [.data, .data], laidTests := true, laidLooks := .later }
def ProofTopsCardSaid : Prop := Claim7.holds Tryd.pinned (.plain (OpenSpec.ofChange proofTopsSpec)) proofTopsCard

/-- THE TIED CARD OF 'torrentlaw7.ProofClimbs'. -/
def proofClimbsCard : Claim7 := { stood := { row := proofClimbsRow, standIns := [], harness := (true, "d9fa7a31007f9d75f4a8f5db2cc0aa5f647812bb4e5d44c39bae4ac8b9b3c714"), looks := false }, kinds := [], alts := [], laidByText := true, laidKinds := [.data, .data, .data, .data], laidTests := true, laidLooks := .later }
def ProofClimbsCardSaid : Prop := Claim7.holds Tryd.pinned (.plain (OpenSpec.ofChange proofClimbsSpec)) proofClimbsCard

/-- THE TIED CARD OF 'torrentlaw7.ProofCollides'. -/
def proofCollidesCard : Claim7 := { stood := { row := proofCollidesRow, standIns := [], harness := (true, "d9fa7a31007f9d75f4a8f5db2cc0aa5f647812bb4e5d44c39bae4ac8b9b3c714"), looks := false }, kinds := [], alts := [], laidByText := true, laidKinds := [.data, .data], laidTests := true, laidLooks := .later }
def ProofCollidesCardSaid : Prop := Claim7.holds Tryd.pinned (.plain (OpenSpec.ofChange proofCollidesSpec)) proofCollidesCard

/-- THE TIED CARD OF 'torrentlaw7.ProofProves'. -/
def proofProvesCard : Claim7 := { stood := { row := proofProvesRow, standIns := [], harness := (true, "d9fa7a31007f9d75f4a8f5db2cc0aa5f647812bb4e5d44c39bae4ac8b9b3c714"), looks := false }, kinds := [], alts := [], laidByText := true, laidKinds := [.data, .data, .data, .data], laidTests := true, laidLooks := .later }
def ProofProvesCardSaid : Prop := Claim7.holds Tryd.pinned (.plain (OpenSpec.ofChange proofProvesSpec)) proofProvesCard

/-- THE TIED CARD OF 'torrentlaw7.ProofVerifies'. -/
def proofVerifiesCard : Claim7 := { stood := { row := proofVerifiesRow, standIns := [], harness := (true, "d9fa7a31007f9d75f4a8f5db2cc0aa5f647812bb4e5d44c39bae4ac8b9b3c714"), looks := false }, kinds := [], alts := [], laidByText := true, laidKinds := [.data, .data, .data, .data], laidTests := true, laidLooks := .later }
def ProofVerifiesCardSaid : Prop := Claim7.holds Tryd.pinned (.plain (OpenSpec.ofChange proofVerifiesSpec)) proofVerifiesCard

/-- THE TIED CARD OF 'torrentlaw7.ProofBinds'. -/
def proofBindsCard : Claim7 := { stood := { row := proofBindsRow, standIns := [], harness := (true, "d9fa7a31007f9d75f4a8f5db2cc0aa5f647812bb4e5d44c39bae4ac8b9b3c714"), looks := false }, kinds := [], alts := [], laidByText := true, laidKinds := [.data, .data], laidTests := true, laidLooks := .later }
def ProofBindsCardSaid : Prop := Claim7.holds Tryd.pinned (.plain (OpenSpec.ofChange proofBindsSpec)) proofBindsCard

/-- THE TIED CARD OF 'torrentlaw7.ProofBetrays'. -/
def proofBetraysCard : Claim7 := { stood := { row := proofBetraysRow, standIns := [], harness := (true, "d9fa7a31007f9d75f4a8f5db2cc0aa5f647812bb4e5d44c39bae4ac8b9b3c714"), looks := false }, kinds := [], alts := [], laidByText := true, laidKinds := [.data, .data, .data, .data], laidTests := true, laidLooks := .later }
def ProofBetraysCardSaid : Prop := Claim7.holds Tryd.pinned (.plain (OpenSpec.ofChange proofBetraysSpec)) proofBetraysCard

/-- THE TIED CARD OF 'torrentlaw7.ProofFetches'. -/
def proofFetchesCard : Claim7 := { stood := { row := proofFetchesRow, standIns := [], harness := (true, "d9fa7a31007f9d75f4a8f5db2cc0aa5f647812bb4e5d44c39bae4ac8b9b3c714"), looks := false }, kinds := [], alts := [], laidByText := true, laidKinds := [.data, .data, .data, .data], laidTests := true, laidLooks := .later }
def ProofFetchesCardSaid : Prop := Claim7.holds Tryd.pinned (.plain (OpenSpec.ofChange proofFetchesSpec)) proofFetchesCard

/-- THE TIED CARD OF 'torrentlaw7.ProofComplete'. -/
def proofCompleteCard : Claim7 := { stood := { row := proofCompleteRow, standIns := [], harness := (true, "d9fa7a31007f9d75f4a8f5db2cc0aa5f647812bb4e5d44c39bae4ac8b9b3c714"), looks := false }, kinds := [], alts := [], laidByText := true, laidKinds := [.data, .data, .data, .data], laidTests := true, laidLooks := .later }
def ProofCompleteCardSaid : Prop := Claim7.holds Tryd.pinned (.plain (OpenSpec.ofChange proofCompleteSpec)) proofCompleteCard

/-- THE TIED CARD OF 'torrentlaw7.ProofSound'. -/
def proofSoundCard : Claim7 := { stood := { row := proofSoundRow, standIns := [], harness := (true, "d9fa7a31007f9d75f4a8f5db2cc0aa5f647812bb4e5d44c39bae4ac8b9b3c714"), looks := false }, kinds := [], alts := [], laidByText := true, laidKinds := [.data, .data, .data, .data], laidTests := true, laidLooks := .later }
def ProofSoundCardSaid : Prop := Claim7.holds Tryd.pinned (.plain (OpenSpec.ofChange proofSoundSpec)) proofSoundCard

/-- THE TIED CARD OF 'torrentlaw7.ProofKept'. -/
def proofKeptCard : Claim7 := { stood := { row := proofKeptRow, standIns := [], harness := (true, "d9fa7a31007f9d75f4a8f5db2cc0aa5f647812bb4e5d44c39bae4ac8b9b3c714"), looks := false }, kinds := [], alts := [], laidByText := true, laidKinds := [.data, .data, .data, .data], laidTests := true, laidLooks := .later }
def ProofKeptCardSaid : Prop := Claim7.holds Tryd.pinned (.plain (OpenSpec.ofChange proofKeptSpec)) proofKeptCard

/-- THE SECOND FORM's CARD OF 'torrentlaw7.ProofAmounts'. -/
def proofAmountsUptoCard : Claim7 := { stood := { row := proofAmountsUptoRow, standIns := [], harness := (true, "d9fa7a31007f9d75f4a8f5db2cc0aa5f647812bb4e5d44c39bae4ac8b9b3c714"), looks := false }, kinds := [], alts := [], laidByText := true, laidKinds := [.data, .data], laidTests := true, laidLooks := .later }
def ProofAmountsUptoCardSaid : Prop := Claim7.holds Tryd.pinned (.plain (OpenSpec.upto proofAmountsSpec)) proofAmountsUptoCard

/-- THE SECOND FORM's CARD OF 'torrentlaw7.ProofTexts'. -/
def proofTextsUptoCard : Claim7 := { stood := { row := proofTextsUptoRow, standIns := [], harness := (true, "d9fa7a31007f9d75f4a8f5db2cc0aa5f647812bb4e5d44c39bae4ac8b9b3c714"), looks := false }, kinds := [], alts := [], laidByText := true, laidKinds := [.data, .data, .data, .data], laidTests := true, laidLooks := .later }
def ProofTextsUptoCardSaid : Prop := Claim7.holds Tryd.pinned (.plain (OpenSpec.upto proofTextsSpec)) proofTextsUptoCard

/-- THE SECOND FORM's CARD OF 'torrentlaw7.ProofTops'. -/
def proofTopsUptoCard : Claim7 := { stood := { row := proofTopsUptoRow, standIns := [], harness := (true, "d9fa7a31007f9d75f4a8f5db2cc0aa5f647812bb4e5d44c39bae4ac8b9b3c714"), looks := false }, kinds := [], alts := [], laidByText := true, laidKinds := [.data, .data], laidTests := true, laidLooks := .later }
def ProofTopsUptoCardSaid : Prop := Claim7.holds Tryd.pinned (.plain (OpenSpec.upto proofTopsSpec)) proofTopsUptoCard

/-- THE SECOND FORM's CARD OF 'torrentlaw7.ProofClimbs'. -/
def proofClimbsUptoCard : Claim7 := { stood := { row := proofClimbsUptoRow, standIns := [], harness := (true, "d9fa7a31007f9d75f4a8f5db2cc0aa5f647812bb4e5d44c39bae4ac8b9b3c714"), looks := false }, kinds := [], alts := [], laidByText := true, laidKinds := [.data, .data, .data, .data], laidTests := true, laidLooks := .later }
def ProofClimbsUptoCardSaid : Prop := Claim7.holds Tryd.pinned (.plain (OpenSpec.upto proofClimbsSpec)) proofClimbsUptoCard

/-- THE SECOND FORM's CARD OF 'torrentlaw7.ProofCollides'. -/
def proofCollidesUptoCard : Claim7 := { stood := { row := proofCollidesUptoRow, standIns := [], harness := (true, "d9fa7a31007f9d75f4a8f5db2cc0aa5f647812bb4e5d44c39bae4ac8b9b3c714"), looks := false }, kinds := [], alts := [], laidByText := true, laidKinds := [.data, .data], laidTests := true, laidLooks := .later }
def ProofCollidesUptoCardSaid : Prop := Claim7.holds Tryd.pinned (.plain (OpenSpec.upto proofCollidesSpec)) proofCollidesUptoCard

/-- THE SECOND FORM's CARD OF 'torrentlaw7.ProofProves'. -/
def proofProvesUptoCard : Claim7 := { stood := { row := proofProvesUptoRow, standIns := [], harness := (true, "d9fa7a31007f9d75f4a8f5db2cc0aa5f647812bb4e5d44c39bae4ac8b9b3c714"), looks := false }, kinds := [], alts := [], laidByText := true, laidKinds := [.data, .data, .data, .data], laidTests := true, laidLooks := .later }
def ProofProvesUptoCardSaid : Prop := Claim7.holds Tryd.pinned (.plain (OpenSpec.upto proofProvesSpec)) proofProvesUptoCard

/-- THE SECOND FORM's CARD OF 'torrentlaw7.ProofVerifies'. -/
def proofVerifiesUptoCard : Claim7 := { stood := { row := proofVerifiesUptoRow, standIns := [], harness := (true, "d9fa7a31007f9d75f4a8f5db2cc0aa5f647812bb4e5d44c39bae4ac8b9b3c714"), looks := false }, kinds := [], alts := [], laidByText := true, laidKinds := [.data, .data, .data, .data], laidTests := true, laidLooks := .later }
def ProofVerifiesUptoCardSaid : Prop := Claim7.holds Tryd.pinned (.plain (OpenSpec.upto proofVerifiesSpec)) proofVerifiesUptoCard

/-- THE SECOND FORM's CARD OF 'torrentlaw7.ProofBinds'. -/
def proofBindsUptoCard : Claim7 := { stood := { row := proofBindsUptoRow, standIns := [], harness := (true, "d9fa7a31007f9d75f4a8f5db2cc0aa5f647812bb4e5d44c39bae4ac8b9b3c714"), looks := false }, kinds := [], alts := [], laidByText := true, laidKinds := [.data, .data], laidTests := true, laidLooks := .later }
def ProofBindsUptoCardSaid : Prop := Claim7.holds Tryd.pinned (.plain (OpenSpec.upto proofBindsSpec)) proofBindsUptoCard

/-- THE SECOND FORM's CARD OF 'torrentlaw7.ProofBetrays'. -/
def proofBetraysUptoCard : Claim7 := { stood := { row := proofBetraysUptoRow, standIns := [], harness := (true, "d9fa7a31007f9d75f4a8f5db2cc0aa5f647812bb4e5d44c39bae4ac8b9b3c714"), looks := false }, kinds := [], alts := [], laidByText := true, laidKinds := [.data, .data, .data, .data], laidTests := true, laidLooks := .later }
def ProofBetraysUptoCardSaid : Prop := Claim7.holds Tryd.pinned (.plain (OpenSpec.upto proofBetraysSpec)) proofBetraysUptoCard

/-- THE SECOND FORM's CARD OF 'torrentlaw7.ProofFetches'. -/
def proofFetchesUptoCard : Claim7 := { stood := { row := proofFetchesUptoRow, standIns := [], harness := (true, "d9fa7a31007f9d75f4a8f5db2cc0aa5f647812bb4e5d44c39bae4ac8b9b3c714"), looks := false }, kinds := [], alts := [], laidByText := true, laidKinds := [.data, .data, .data, .data], laidTests := true, laidLooks := .later }
def ProofFetchesUptoCardSaid : Prop := Claim7.holds Tryd.pinned (.plain (OpenSpec.upto proofFetchesSpec)) proofFetchesUptoCard

/-- THE SECOND FORM's CARD OF 'torrentlaw7.ProofComplete'. -/
def proofCompleteUptoCard : Claim7 := { stood := { row := proofCompleteUptoRow, standIns := [], harness := (true, "d9fa7a31007f9d75f4a8f5db2cc0aa5f647812bb4e5d44c39bae4ac8b9b3c714"), looks := false }, kinds := [], alts := [], laidByText := true, laidKinds := [.data, .data, .data, .data], laidTests := true, laidLooks := .later }
def ProofCompleteUptoCardSaid : Prop := Claim7.holds Tryd.pinned (.plain (OpenSpec.upto proofCompleteSpec)) proofCompleteUptoCard

/-- THE SECOND FORM's CARD OF 'torrentlaw7.ProofSound'. -/
def proofSoundUptoCard : Claim7 := { stood := { row := proofSoundUptoRow, standIns := [], harness := (true, "d9fa7a31007f9d75f4a8f5db2cc0aa5f647812bb4e5d44c39bae4ac8b9b3c714"), looks := false }, kinds := [], alts := [], laidByText := true, laidKinds := [.data, .data, .data, .data], laidTests := true, laidLooks := .later }
def ProofSoundUptoCardSaid : Prop := Claim7.holds Tryd.pinned (.plain (OpenSpec.upto proofSoundSpec)) proofSoundUptoCard

/-- THE SECOND FORM's CARD OF 'torrentlaw7.ProofKept'. -/
def proofKeptUptoCard : Claim7 := { stood := { row := proofKeptUptoRow, standIns := [], harness := (true, "d9fa7a31007f9d75f4a8f5db2cc0aa5f647812bb4e5d44c39bae4ac8b9b3c714"), looks := false }, kinds := [], alts := [], laidByText := true, laidKinds := [.data, .data, .data, .data], laidTests := true, laidLooks := .later }
def ProofKeptUptoCardSaid : Prop := Claim7.holds Tryd.pinned (.plain (OpenSpec.upto proofKeptSpec)) proofKeptUptoCard
end Rows
end Go.Proofs.YtcjnpaikmcjjlaaDoor

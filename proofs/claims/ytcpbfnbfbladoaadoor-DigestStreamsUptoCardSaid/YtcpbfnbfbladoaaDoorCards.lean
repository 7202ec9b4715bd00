/-
  DERIVED. GIVEN WITH THE SEED: THE CARDS: each row of YtcpbfnbfbladoaaDoorRows.lean that lists a variable, with what it lists TIED to the program's text (the seventh form; the later family's looks); each row that meets fmt, with fmt's text TOLD by the authors' own Lean function (tested against real Go, not proved from fmt's source: count such statements apart). THE CARD IS WHAT COUNTS. Prove the row's statement (the work); the ties are given (YtcpbfnbfbladoaaDoorTie.lean); close each card by the builder's one call (the guide's Derived/Test/ToyasCard.lean, 'card_holds'). Laid BY PROGRAM, IN A SANDBOX (cutbox-door.mjs). By AI agents, Wed Nov 11 2026. No macro, syntax, notation, axiom, sorry.
-/
import Derived.Test.YtcpbfnbfbladoaaDoorRows
import GoSem.ClaimSeven
namespace Go.Proofs.YtcpbfnbfbladoaaDoor
namespace Rows

/-- THE TIED CARD OF 'torrentlaw1.DigestTables'. -/
def digestTablesCard : Claim7 := { stood := { row := digestTablesRow, standIns := [], harness := (true, "7c94a603bb51a9d4b2c5837b75373a5ed35d03b08991a3bf403ea26259f99fe0"), looks := false }, kinds := [], alts := [], laidByText := true, laidKinds := [.data, .data], laidTests := true, laidLooks := .later }
def DigestTablesCardSaid : Prop := Claim7.holds Tryd.pinned (.plain (OpenSpec.ofChange digestTablesSpec)) digestTablesCard

/-- THE TIED CARD OF 'torrentlaw1.DigestCompresses'. -/
def digestCompressesCard : Claim7 := { stood := { row := digestCompressesRow, standIns := [], harness := (true, "7c94a603bb51a9d4b2c5837b75373a5ed35d03b08991a3bf403ea26259f99fe0"), looks := false }, kinds := [], alts := [], laidByText := true, laidKinds := [.data], laidTests := true, laidLooks := .later }
def DigestCompressesCardSaid : Prop := Claim7.holds Tryd.pinned (.plain (OpenSpec.ofChange digestCompressesSpec)) digestCompressesCard

/-- THE TIED CARD OF 'torrentlaw1.DigestFolds'. -/
def digestFoldsCard : Claim7 := { stood := { row := digestFoldsRow, standIns := [], harness := (true, "7c94a603bb51a9d4b2c5837b75373a5ed35d03b08991a3bf403ea26259f99fe0"), looks := false }, kinds := [], alts := [], laidByText := true, laidKinds := [.data, .data], laidTests := true, laidLooks := .later }
def DigestFoldsCardSaid : Prop := Claim7.holds Tryd.pinned (.plain (OpenSpec.ofChange digestFoldsSpec)) digestFoldsCard

/-- THE TIED CARD OF 'torrentlaw1.DigestCuts'. -/
def digestCutsCard : Claim7 := { stood := { row := digestCutsRow, standIns := [], harness := (true, "7c94a603bb51a9d4b2c5837b75373a5ed35d03b08991a3bf403ea26259f99fe0"), looks := false }, kinds := [], alts := [], laidByText := true, laidKinds := [.data, .data], laidTests := true, laidLooks := .later }
def DigestCutsCardSaid : Prop := Claim7.holds Tryd.pinned (.plain (OpenSpec.ofChange digestCutsSpec)) digestCutsCard

/-- THE TIED CARD OF 'torrentlaw1.DigestResumes'. -/
def digestResumesCard : Claim7 := { stood := { row := digestResumesRow, standIns := [], harness := (true, "7c94a603bb51a9d4b2c5837b75373a5ed35d03b08991a3bf403ea26259f99fe0"), looks := false }, kinds := [], alts := [], laidByText := true, laidKinds := [.data, .data], laidTests := true, laidLooks := .later }
def DigestResumesCardSaid : Prop := Claim7.holds Tryd.pinned (.plain (OpenSpec.ofChange digestResumesSpec)) digestResumesCard

/-- THE TIED CARD OF 'torrentlaw1.DigestClashes'. -/
def digestClashesCard : Claim7 := { stood := { row := digestClashesRow, standIns := [], harness := (true, "7c94a603bb51a9d4b2c5837b75373a5ed35d03b08991a3bf403ea26259f99fe0"), looks := false }, kinds := [], alts := [], laidByText := true, laidKinds := [.data, .data], laidTests := true, laidLooks := .later }
def DigestClashesCardSaid : Prop := Claim7.holds Tryd.pinned (.plain (OpenSpec.ofChange digestClashesSpec)) digestClashesCard

/-- THE TIED CARD OF 'torrentlaw1.DigestStreams'. -/
def digestStreamsCard : Claim7 := { stood := { row := digestStreamsRow, standIns := [], harness := (true, "7c94a603bb51a9d4b2c5837b75373a5ed35d03b08991a3bf403ea26259f99fe0"), looks := false }, kinds := [], alts := [], laidByText := true, laidKinds := [.data, .data], laidTests := true, laidLooks := .later }
def DigestStreamsCardSaid : Prop := Claim7.holds Tryd.pinned (.plain (OpenSpec.ofChange digestStreamsSpec)) digestStreamsCard

/-- THE TIED CARD OF 'torrentlaw1.DigestCutting'. -/
def digestCuttingCard : Claim7 := { stood := { row := digestCuttingRow, standIns := [], harness := (true, "7c94a603bb51a9d4b2c5837b75373a5ed35d03b08991a3bf403ea26259f99fe0"), looks := false }, kinds := [], alts := [], laidByText := true, laidKinds := [.data, .data], laidTests := true, laidLooks := .later }
def DigestCuttingCardSaid : Prop := Claim7.holds Tryd.pinned (.plain (OpenSpec.ofChange digestCuttingSpec)) digestCuttingCard

/-- THE TIED CARD OF 'torrentlaw1.DigestKept'. -/
def digestKeptCard : Claim7 := { stood := { row := digestKeptRow, standIns := [], harness := (true, "7c94a603bb51a9d4b2c5837b75373a5ed35d03b08991a3bf403ea26259f99fe0"), looks := false }, kinds := [], alts := [], laidByText := true, laidKinds := [.data, .data], laidTests := true, laidLooks := .later }
def DigestKeptCardSaid : Prop := Claim7.holds Tryd.pinned (.plain (OpenSpec.ofChange digestKeptSpec)) digestKeptCard

/-- THE SECOND FORM's CARD OF 'torrentlaw1.DigestTables'. -/
def digestTablesUptoCard : Claim7 := { stood := { row := digestTablesUptoRow, standIns := [], harness := (true, "7c94a603bb51a9d4b2c5837b75373a5ed35d03b08991a3bf403ea26259f99fe0"), looks := false }, kinds := [], alts := [], laidByText := true, laidKinds := [.data, .data], laidTests := true, laidLooks := .later }
def DigestTablesUptoCardSaid : Prop := Claim7.holds Tryd.pinned (.plain (OpenSpec.upto digestTablesSpec)) digestTablesUptoCard

/-- THE SECOND FORM's CARD OF 'torrentlaw1.DigestCompresses'. -/
def digestCompressesUptoCard : Claim7 := { stood := { row := digestCompressesUptoRow, standIns := [], harness := (true, "7c94a603bb51a9d4b2c5837b75373a5ed35d03b08991a3bf403ea26259f99fe0"), looks := false }, kinds := [], alts := [], laidByText := true, laidKinds := [.data], laidTests := true, laidLooks := .later }
def DigestCompressesUptoCardSaid : Prop := Claim7.holds Tryd.pinned (.plain (OpenSpec.upto digestCompressesSpec)) digestCompressesUptoCard

/-- THE SECOND FORM's CARD OF 'torrentlaw1.DigestFolds'. -/
def digestFoldsUptoCard : Claim7 := { stood := { row := digestFoldsUptoRow, standIns := [], harness := (true, "7c94a603bb51a9d4b2c5837b75373a5ed35d03b08991a3bf403ea26259f99fe0"), looks := false }, kinds := [], alts := [], laidByText := true, laidKinds := [.data, .data], laidTests := true, laidLooks := .later }
def DigestFoldsUptoCardSaid : Prop := Claim7.holds Tryd.pinned (.plain (OpenSpec.upto digestFoldsSpec)) digestFoldsUptoCard

/-- THE SECOND FORM's CARD OF 'torrentlaw1.DigestCuts'. -/
def digestCutsUptoCard : Claim7 := { stood := { row := digestCutsUptoRow, standIns := [], harness := (true, "7c94a603bb51a9d4b2c5837b75373a5ed35d03b08991a3bf403ea26259f99fe0"), looks := false }, kinds := [], alts := [], laidByText := true, laidKinds := [.data, .data], laidTests := true, laidLooks := .later }
def DigestCutsUptoCardSaid : Prop := Claim7.holds Tryd.pinned (.plain (OpenSpec.upto digestCutsSpec)) digestCutsUptoCard

/-- THE SECOND FORM's CARD OF 'torrentlaw1.DigestResumes'. -/
def digestResumesUptoCard : Claim7 := { stood := { row := digestResumesUptoRow, standIns := [], harness := (true, "7c94a603bb51a9d4b2c5837b75373a5ed35d03b08991a3bf403ea26259f99fe0"), looks := false }, kinds := [], alts := [], laidByText := true, laidKinds := [.data, .data], laidTests := true, laidLooks := .later }
def DigestResumesUptoCardSaid : Prop := Claim7.holds Tryd.pinned (.plain (OpenSpec.upto digestResumesSpec)) digestResumesUptoCard

/-- THE SECOND FORM's CARD OF 'torrentlaw1.DigestClashes'. -/
def digestClashesUptoCard : Claim7 := { stood := { row := digestClashesUptoRow, standIns := [], harness := (true, "7c94a603bb51a9d4b2c5837b75373a5ed35d03b08991a3bf403ea26259f99fe0"), looks := false }, kinds := [], alts := [], laidByText := true, laidKinds := [.data, .data], laidTests := true, laidLooks := .later }
def DigestClashesUptoCardSaid : Prop := Claim7.holds Tryd.pinned (.plain (OpenSpec.upto digestClashesSpec)) digestClashesUptoCard

/-- THE SECOND FORM's CARD OF 'torrentlaw1.DigestStreams'. -/
def digestStreamsUptoCard : Claim7 := { stood := { row := digestStreamsUptoRow, standIns := [], harness := (true, "7c94a603bb51a9d4b2c5837b75373a5ed35d03b08991a3bf403ea26259f99fe0"), looks := false }, kinds := [], alts := [], laidByText := true, laidKinds := [.data, .data], laidTests := true, laidLooks := .later }
def DigestStreamsUptoCardSaid : Prop := Claim7.holds Tryd.pinned (.plain (OpenSpec.upto digestStreamsSpec)) digestStreamsUptoCard

/-- THE SECOND FORM's CARD OF 'torrentlaw1.DigestCutting'. -/
def digestCuttingUptoCard : Claim7 := { stood := { row := digestCuttingUptoRow, standIns := [], harness := (true, "7c94a603bb51a9d4b2c5837b75373a5ed35d03b08991a3bf403ea26259f99fe0"), looks := false }, kinds := [], alts := [], laidByText := true, laidKinds := [.data, .data], laidTests := true, laidLooks := .later }
def DigestCuttingUptoCardSaid : Prop := Claim7.holds Tryd.pinned (.plain (OpenSpec.upto digestCuttingSpec)) digestCuttingUptoCard

/-- THE SECOND FORM's CARD OF 'torrentlaw1.DigestKept'. -/
def digestKeptUptoCard : Claim7 := { stood := { row := digestKeptUptoRow, standIns := [], harness := (true, "7c94a603bb51a9d4b2c5837b75373a5ed35d03b08991a3bf403ea26259f99fe0"), looks := false }, kinds := [], alts := [], laidByText := true, laidKinds := [.data, .data], laidTests := true, laidLooks := .later }
def DigestKeptUptoCardSaid : Prop := Claim7.holds Tryd.pinned (.plain (OpenSpec.upto digestKeptSpec)) digestKeptUptoCard
end Rows
end Go.Proofs.YtcpbfnbfbladoaaDoor

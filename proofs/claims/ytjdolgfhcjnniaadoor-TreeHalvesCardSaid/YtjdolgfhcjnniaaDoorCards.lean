/-
  DERIVED. GIVEN WITH THE SEED: THE CARDS: each row of YtjdolgfhcjnniaaDoorRows.lean that lists a variable, with what it lists TIED to the program's text (the seventh form; the later family's looks); each row that meets fmt, with fmt's text TOLD by the authors' own Lean function (tested against real Go, not proved from fmt's source: count such statements apart). THE CARD IS WHAT COUNTS. Prove the row's statement (the work); the ties are given (YtjdolgfhcjnniaaDoorTie.lean); close each card by the builder's one call (the guide's Derived/Test/ToyasCard.lean, 'card_holds'). Laid BY PROGRAM, IN A SANDBOX (cutbox-door.mjs). By AI agents, Wed Nov 11 2026. No macro, syntax, notation, axiom, sorry.
-/
import Derived.Test.YtjdolgfhcjnniaaDoorRows
import GoSem.ClaimSeven
namespace Go.Proofs.YtjdolgfhcjnniaaDoor
namespace Rows

/-- THE TIED CARD OF 'torrentlaw6.TreeLeaves'. -/
def treeLeavesCard : Claim7 := { stood := { row := treeLeavesRow, standIns := [], harness := (true, "e936c924de9ea54fce4e481d109bad2307a7c11c1013e7a10fd8208c509d11d9"), looks := false }, kinds := [], alts := [], laidByText := true, laidKinds := [.data, .data], laidTests := true, laidLooks := .later }
def TreeLeavesCardSaid : Prop := Claim7.holds Tryd.pinned (.plain (OpenSpec.ofChange treeLeavesSpec)) treeLeavesCard

/-- THE TIED CARD OF 'torrentlaw6.TreeNodes'. -/
def treeNodesCard : Claim7 := { stood := { row := treeNodesRow, standIns := [], harness := (true, "e936c924de9ea54fce4e481d109bad2307a7c11c1013e7a10fd8208c509d11d9"), looks := false }, kinds := [], alts := [], laidByText := true, laidKinds := [.data, .data], laidTests := true, laidLooks := .later }
def TreeNodesCardSaid : Prop := Claim7.holds Tryd.pinned (.plain (OpenSpec.ofChange treeNodesSpec)) treeNodesCard

/-- THE TIED CARD OF 'torrentlaw6.TreeLayers'. -/
def treeLayersCard : Claim7 := { stood := { row := treeLayersRow, standIns := [], harness := (true, "e936c924de9ea54fce4e481d109bad2307a7c11c1013e7a10fd8208c509d11d9"), looks := false }, kinds := [], alts := [], laidByText := true, laidKinds := [.data, .data], laidTests := true, laidLooks := .later }
def TreeLayersCardSaid : Prop := Claim7.holds Tryd.pinned (.plain (OpenSpec.ofChange treeLayersSpec)) treeLayersCard

/-- THE TIED CARD OF 'torrentlaw6.TreeLayerRoots'. -/
def treeLayerRootsCard : Claim7 := { stood := { row := treeLayerRootsRow, standIns := [], harness := (true, "e936c924de9ea54fce4e481d109bad2307a7c11c1013e7a10fd8208c509d11d9"), looks := false }, kinds := [], alts := [], laidByText := true, laidKinds := [.data, .data], laidTests := true, laidLooks := .later }
def TreeLayerRootsCardSaid : Prop := Claim7.holds Tryd.pinned (.plain (OpenSpec.ofChange treeLayerRootsSpec)) treeLayerRootsCard

/-- THE TIED CARD OF 'torrentlaw6.TreeFiles'. -/
def treeFilesCard : Claim7 := { stood := { row := treeFilesRow, standIns := [], harness := (true, "e936c924de9ea54fce4e481d109bad2307a7c11c1013e7a10fd8208c509d11d9"), looks := false }, kinds := [], alts := [], laidByText := true, laidKinds := [.data, .data], laidTests := true, laidLooks := .later }
def TreeFilesCardSaid : Prop := Claim7.holds Tryd.pinned (.plain (OpenSpec.ofChange treeFilesSpec)) treeFilesCard

/-- THE TIED CARD OF 'torrentlaw6.TreeClimbs'. -/
def treeClimbsCard : Claim7 := { stood := { row := treeClimbsRow, standIns := [], harness := (true, "e936c924de9ea54fce4e481d109bad2307a7c11c1013e7a10fd8208c509d11d9"), looks := false }, kinds := [], alts := [], laidByText := true, laidKinds := [.data, .data], laidTests := true, laidLooks := .later }
def TreeClimbsCardSaid : Prop := Claim7.holds Tryd.pinned (.plain (OpenSpec.ofChange treeClimbsSpec)) treeClimbsCard

/-- THE TIED CARD OF 'torrentlaw6.TreeFolds'. -/
def treeFoldsCard : Claim7 := { stood := { row := treeFoldsRow, standIns := [], harness := (true, "e936c924de9ea54fce4e481d109bad2307a7c11c1013e7a10fd8208c509d11d9"), looks := false }, kinds := [], alts := [], laidByText := true, laidKinds := [.data, .data], laidTests := true, laidLooks := .later }
def TreeFoldsCardSaid : Prop := Claim7.holds Tryd.pinned (.plain (OpenSpec.ofChange treeFoldsSpec)) treeFoldsCard

/-- THE TIED CARD OF 'torrentlaw6.TreeHalves'. -/
def treeHalvesCard : Claim7 := { stood := { row := treeHalvesRow, standIns := [], harness := (true, "e936c924de9ea54fce4e481d109bad2307a7c11c1013e7a10fd8208c509d11d9"), looks := false }, kinds := [], alts := [], laidByText := true, laidKinds := [.data, .data], laidTests := true, laidLooks := .later }
def TreeHalvesCardSaid : Prop := Claim7.holds Tryd.pinned (.plain (OpenSpec.ofChange treeHalvesSpec)) treeHalvesCard

/-- THE TIED CARD OF 'torrentlaw6.TreeBuilds'. -/
def treeBuildsCard : Claim7 := { stood := { row := treeBuildsRow, standIns := [], harness := (true, "e936c924de9ea54fce4e481d109bad2307a7c11c1013e7a10fd8208c509d11d9"), looks := false }, kinds := [], alts := [], laidByText := true, laidKinds := [.data, .data], laidTests := true, laidLooks := .later }
def TreeBuildsCardSaid : Prop := Claim7.holds Tryd.pinned (.plain (OpenSpec.ofChange treeBuildsSpec)) treeBuildsCard

/-- THE TIED CARD OF 'torrentlaw6.TreePieces'. -/
def treePiecesCard : Claim7 := { stood := { row := treePiecesRow, standIns := [], harness := (true, "e936c924de9ea54fce4e481d109bad2307a7c11c1013e7a10fd8208c509d11d9"), looks := false }, kinds := [], alts := [], laidByText := true, laidKinds := [.data, .data], laidTests := true, laidLooks := .later }
def TreePiecesCardSaid : Prop := Claim7.holds Tryd.pinned (.plain (OpenSpec.ofChange treePiecesSpec)) treePiecesCard

/-- THE TIED CARD OF 'torrentlaw6.TreePads'. -/
def treePadsCard : Claim7 := { stood := { row := treePadsRow, standIns := [], harness := (true, "e936c924de9ea54fce4e481d109bad2307a7c11c1013e7a10fd8208c509d11d9"), looks := false }, kinds := [], alts := [], laidByText := true, laidKinds := [.data, .data], laidTests := true, laidLooks := .later }
def TreePadsCardSaid : Prop := Claim7.holds Tryd.pinned (.plain (OpenSpec.ofChange treePadsSpec)) treePadsCard

/-- THE TIED CARD OF 'torrentlaw6.TreeStreams'. -/
def treeStreamsCard : Claim7 := { stood := { row := treeStreamsRow, standIns := [], harness := (true, "e936c924de9ea54fce4e481d109bad2307a7c11c1013e7a10fd8208c509d11d9"), looks := false }, kinds := [], alts := [], laidByText := true, laidKinds := [.data, .data], laidTests := true, laidLooks := .later }
def TreeStreamsCardSaid : Prop := Claim7.holds Tryd.pinned (.plain (OpenSpec.ofChange treeStreamsSpec)) treeStreamsCard

/-- THE TIED CARD OF 'torrentlaw6.TreeOwn'. -/
def treeOwnCard : Claim7 := { stood := { row := treeOwnRow, standIns := [], harness := (true, "e936c924de9ea54fce4e481d109bad2307a7c11c1013e7a10fd8208c509d11d9"), looks := false }, kinds := [], alts := [], laidByText := true, laidKinds := [.data, .data], laidTests := true, laidLooks := .later }
def TreeOwnCardSaid : Prop := Claim7.holds Tryd.pinned (.plain (OpenSpec.ofChange treeOwnSpec)) treeOwnCard

/-- THE SECOND FORM's CARD OF 'torrentlaw6.TreeLeaves'. -/
def treeLeavesUptoCard : Claim7 := { stood := { row := treeLeavesUptoRow, standIns := [], harness := (true, "e936c924de9ea54fce4e481d109bad2307a7c11c1013e7a10fd8208c509d11d9"), looks := false }, kinds := [], alts := [], laidByText := true, laidKinds := [.data, .data], laidTests := true, laidLooks := .later }
def TreeLeavesUptoCardSaid : Prop := Claim7.holds Tryd.pinned (.plain (OpenSpec.upto treeLeavesSpec)) treeLeavesUptoCard

/-- THE SECOND FORM's CARD OF 'torrentlaw6.TreeNodes'. -/
def treeNodesUptoCard : Claim7 := { stood := { row := treeNodesUptoRow, standIns := [], harness := (true, "e936c924de9ea54fce4e481d109bad2307a7c11c1013e7a10fd8208c509d11d9"), looks := false }, kinds := [], alts := [], laidByText := true, laidKinds := [.data, .data], laidTests := true, laidLooks := .later }
def TreeNodesUptoCardSaid : Prop := Claim7.holds Tryd.pinned (.plain (OpenSpec.upto treeNodesSpec)) treeNodesUptoCard

/-- THE SECOND FORM's CARD OF 'torrentlaw6.TreeLayers'. -/
def treeLayersUptoCard : Claim7 := { stood := { row := treeLayersUptoRow, standIns := [], harness := (true, "e936c924de9ea54fce4e481d109bad2307a7c11c1013e7a10fd8208c509d11d9"), looks := false }, kinds := [], alts := [], laidByText := true, laidKinds := [.data, .data], laidTests := true, laidLooks := .later }
def TreeLayersUptoCardSaid : Prop := Claim7.holds Tryd.pinned (.plain (OpenSpec.upto treeLayersSpec)) treeLayersUptoCard

/-- THE SECOND FORM's CARD OF 'torrentlaw6.TreeLayerRoots'. -/
def treeLayerRootsUptoCard : Claim7 := { stood := { row := treeLayerRootsUptoRow, standIns := [], harness := (true, "e936c924de9ea54fce4e481d109bad2307a7c11c1013e7a10fd8208c509d11d9"), looks := false }, kinds := [], alts := [], laidByText := true, laidKinds := [.data, .data], laidTests := true, laidLooks := .later }
def TreeLayerRootsUptoCardSaid : Prop := Claim7.holds Tryd.pinned (.plain (OpenSpec.upto treeLayerRootsSpec)) treeLayerRootsUptoCard

/-- THE SECOND FORM's CARD OF 'torrentlaw6.TreeFiles'. -/
def treeFilesUptoCard : Claim7 := { stood := { row := treeFilesUptoRow, standIns := [], harness := (true, "e936c924de9ea54fce4e481d109bad2307a7c11c1013e7a10fd8208c509d11d9"), looks := false }, kinds := [], alts := [], laidByText := true, laidKinds := [.data, .data], laidTests := true, laidLooks := .later }
def TreeFilesUptoCardSaid : Prop := Claim7.holds Tryd.pinned (.plain (OpenSpec.upto treeFilesSpec)) treeFilesUptoCard

/-- THE SECOND FORM's CARD OF 'torrentlaw6.TreeClimbs'. -/
def treeClimbsUptoCard : Claim7 := { stood := { row := treeClimbsUptoRow, standIns := [], harness := (true, "e936c924de9ea54fce4e481d109bad2307a7c11c1013e7a10fd8208c509d11d9"), looks := false }, kinds := [], alts := [], laidByText := true, laidKinds := [.data, .data], laidTests := true, laidLooks := .later }
def TreeClimbsUptoCardSaid : Prop := Claim7.holds Tryd.pinned (.plain (OpenSpec.upto treeClimbsSpec)) treeClimbsUptoCard

/-- THE SECOND FORM's CARD OF 'torrentlaw6.TreeFolds'. -/
def treeFoldsUptoCard : Claim7 := { stood := { row := treeFoldsUptoRow, standIns := [], harness := (true, "e936c924de9ea54fce4e481d109bad2307a7c11c1013e7a10fd8208c509d11d9"), looks := false }, kinds := [], alts := [], laidByText := true, laidKinds := [.data, .data], laidTests := true, laidLooks := .later }
def TreeFoldsUptoCardSaid : Prop := Claim7.holds Tryd.pinned (.plain (OpenSpec.upto treeFoldsSpec)) treeFoldsUptoCard

/-- THE SECOND FORM's CARD OF 'torrentlaw6.TreeHalves'. -/
def treeHalvesUptoCard : Claim7 := { stood := { row := treeHalvesUptoRow, standIns := [], harness := (true, "e936c924de9ea54fce4e481d109bad2307a7c11c1013e7a10fd8208c509d11d9"), looks := false }, kinds := [], alts := [], laidByText := true, laidKinds := [.data, .data], laidTests := true, laidLooks := .later }
def TreeHalvesUptoCardSaid : Prop := Claim7.holds Tryd.pinned (.plain (OpenSpec.upto treeHalvesSpec)) treeHalvesUptoCard

/-- THE SECOND FORM's CARD OF 'torrentlaw6.TreeBuilds'. -/
def treeBuildsUptoCard : Claim7 := { stood := { row := treeBuildsUptoRow, standIns := [], harness := (true, "e936c924de9ea54fce4e481d109bad2307a7c11c1013e7a10fd8208c509d11d9"), looks := false }, kinds := [], alts := [], laidByText := true, laidKinds := [.data, .data], laidTests := true, laidLooks := .later }
def TreeBuildsUptoCardSaid : Prop := Claim7.holds Tryd.pinned (.plain (OpenSpec.upto treeBuildsSpec)) treeBuildsUptoCard

/-- THE SECOND FORM's CARD OF 'torrentlaw6.TreePieces'. -/
def treePiecesUptoCard : Claim7 := { stood := { row := treePiecesUptoRow, standIns := [], harness := (true, "e936c924de9ea54fce4e481d109bad2307a7c11c1013e7a10fd8208c509d11d9"), looks := false }, kinds := [], alts := [], laidByText := true, laidKinds := [.data, .data], laidTests := true, laidLooks := .later }
def TreePiecesUptoCardSaid : Prop := Claim7.holds Tryd.pinned (.plain (OpenSpec.upto treePiecesSpec)) treePiecesUptoCard

/-- THE SECOND FORM's CARD OF 'torrentlaw6.TreePads'. -/
def treePadsUptoCard : Claim7 := { stood := { row := treePadsUptoRow, standIns := [], harness := (true, "e936c924de9ea54fce4e481d109bad2307a7c11c1013e7a10fd8208c509d11d9"), looks := false }, kinds := [], alts := [], laidByText := true, laidKinds := [.data, .data], laidTests := true, laidLooks := .later }
def TreePadsUptoCardSaid : Prop := Claim7.holds Tryd.pinned (.plain (OpenSpec.upto treePadsSpec)) treePadsUptoCard

/-- THE SECOND FORM's CARD OF 'torrentlaw6.TreeStreams'. -/
def treeStreamsUptoCard : Claim7 := { stood := { row := treeStreamsUptoRow, standIns := [], harness := (true, "e936c924de9ea54fce4e481d109bad2307a7c11c1013e7a10fd8208c509d11d9"), looks := false }, kinds := [], alts := [], laidByText := true, laidKinds := [.data, .data], laidTests := true, laidLooks := .later }
def TreeStreamsUptoCardSaid : Prop := Claim7.holds Tryd.pinned (.plain (OpenSpec.upto treeStreamsSpec)) treeStreamsUptoCard

/-- THE SECOND FORM's CARD OF 'torrentlaw6.TreeOwn'. -/
def treeOwnUptoCard : Claim7 := { stood := { row := treeOwnUptoRow, standIns := [], harness := (true, "e936c924de9ea54fce4e481d109bad2307a7c11c1013e7a10fd8208c509d11d9"), looks := false }, kinds := [], alts := [], laidByText := true, laidKinds := [.data, .data], laidTests := true, laidLooks := .later }
def TreeOwnUptoCardSaid : Prop := Claim7.holds Tryd.pinned (.plain (OpenSpec.upto treeOwnSpec)) treeOwnUptoCard
end Rows
end Go.Proofs.YtjdolgfhcjnniaaDoor

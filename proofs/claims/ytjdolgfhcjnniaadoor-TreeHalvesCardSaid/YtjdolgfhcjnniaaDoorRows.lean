/-
  NARROWER THAN 'FOR EVERY INPUT', by the rows' own cells (each row's printed sentence says how): TreeLeaves: laid · TreeNodes: laid · TreeLayers: laid · TreeLayerRoots: laid · TreeFiles: laid · TreeClimbs: laid · TreeFolds: laid · TreeHalves: laid · TreeBuilds: laid · TreePieces: laid · TreePads: laid · TreeStreams: laid · TreeOwn: laid.
  DERIVED. THE GIVEN ROWS OF THIS SEAT. 13 by the template 'for every input the law returns true; each argument reads behind the call as it read before'; 0 by the template 'total and deterministic' (their statements: YtjdolgfhcjnniaaDoorTotals.lean).
  GIVEN WITH THE SEED: the statements are not yours to turn. If you find one false, say at which input.
  Laid BY PROGRAM, IN A SANDBOX (cutbox-rows.mjs): the forced cells as the released guide's own fill.sh prints them over the translation 01bf43a03b6ac471… (all of the seat's roots in one cut). By AI agents, Wed Nov 11 2026. No macro, syntax, notation, axiom, sorry.
-/
import Derived.Test.YtjdolgfhcjnniaaDoorChecked
import GoSem.Claim
import GoSem.ClaimJoined
import GoSem.ClaimMapViews
import Derived.JoinedTies
import Derived.KernelRfl
namespace Go.Proofs.YtjdolgfhcjnniaaDoor
/- THE CELL 'sum', in the pinned program and in every row, IS THE sha256 OF THE DUMP (.gsa) THAT YtjdolgfhcjnniaaDoorProg.lean LOADS. Nothing in Lean hashes anything: it is a label: what it is worth is what the hold of that sum in a sandbox is worth. -/
noncomputable def Tryd.pinned : Pinned := { name := "ytjdolgfhcjnniaadoor", sum := "01bf43a03b6ac4717bd568a25b5e1d0bc6640247522f8cde962d8e61972a3095", checked := Tryd.checked }
namespace Rows
def none {H : Type} : Left H := { results := [], args := [] }

/- WHAT THE LISTED PACKAGE-LEVEL VARIABLES READ AS WHEN THE CALL BEGINS. Each datum BY PROGRAM (the guide's laid-datum.mjs) off the statement by which the dump's own 'gosem.cut.vars' lays the variable. In a bare row this is a premise. The card (YtjdolgfhcjnniaaDoorCards.lean) ties it to the program's text. -/
def laid_torrent_digest_roundConstants {H : Type} : DataW H := .agg [.lit (.int .u32 1116352408), .lit (.int .u32 1899447441), .lit (.int .u32 3049323471), .lit (.int .u32 3921009573), .lit (.int .u32 961987163), .lit (.int .u32 1508970993), .lit (.int .u32 2453635748), .lit (.int .u32 2870763221), .lit (.int .u32 3624381080), .lit (.int .u32 310598401), .lit (.int .u32 607225278), .lit (.int .u32 1426881987), .lit (.int .u32 1925078388), .lit (.int .u32 2162078206), .lit (.int .u32 2614888103), .lit (.int .u32 3248222580), .lit (.int .u32 3835390401), .lit (.int .u32 4022224774), .lit (.int .u32 264347078), .lit (.int .u32 604807628), .lit (.int .u32 770255983), .lit (.int .u32 1249150122), .lit (.int .u32 1555081692), .lit (.int .u32 1996064986), .lit (.int .u32 2554220882), .lit (.int .u32 2821834349), .lit (.int .u32 2952996808), .lit (.int .u32 3210313671), .lit (.int .u32 3336571891), .lit (.int .u32 3584528711), .lit (.int .u32 113926993), .lit (.int .u32 338241895), .lit (.int .u32 666307205), .lit (.int .u32 773529912), .lit (.int .u32 1294757372), .lit (.int .u32 1396182291), .lit (.int .u32 1695183700), .lit (.int .u32 1986661051), .lit (.int .u32 2177026350), .lit (.int .u32 2456956037), .lit (.int .u32 2730485921), .lit (.int .u32 2820302411), .lit (.int .u32 3259730800), .lit (.int .u32 3345764771), .lit (.int .u32 3516065817), .lit (.int .u32 3600352804), .lit (.int .u32 4094571909), .lit (.int .u32 275423344), .lit (.int .u32 430227734), .lit (.int .u32 506948616), .lit (.int .u32 659060556), .lit (.int .u32 883997877), .lit (.int .u32 958139571), .lit (.int .u32 1322822218), .lit (.int .u32 1537002063), .lit (.int .u32 1747873779), .lit (.int .u32 1955562222), .lit (.int .u32 2024104815), .lit (.int .u32 2227730452), .lit (.int .u32 2361852424), .lit (.int .u32 2428436474), .lit (.int .u32 2756734187), .lit (.int .u32 3204031479), .lit (.int .u32 3329325298)]
def laid_torrent_digest_firstState {H : Type} : DataW H := .agg [.lit (.int .u32 1779033703), .lit (.int .u32 3144134277), .lit (.int .u32 1013904242), .lit (.int .u32 2773480762), .lit (.int .u32 1359893119), .lit (.int .u32 2600822924), .lit (.int .u32 528734635), .lit (.int .u32 1541459225)]

/-- 'torrentlaw6.TreeLeaves': WHATEVER THE INPUT: true; the input reads as it did. -/
def treeLeavesSpec : ChangeSpec := { name := "treeLeaves", fn := fun _ => fun
  | [d1, d2] => { results := [.lit (.bool true)], args := [d1, d2] }
  | _ => none }
def treeLeavesRow : OpenClaim := { program := "ytjdolgfhcjnniaadoor", sum := "01bf43a03b6ac4717bd568a25b5e1d0bc6640247522f8cde962d8e61972a3095", func := "torrent/torrentlaw6.TreeLeaves", spec := "treeLeaves", unfollowed := true, recurses := true, named := ["torrent/digest.firstState", "torrent/digest.roundConstants"], apart := false, laid := [("torrent/digest.roundConstants", laid_torrent_digest_roundConstants), ("torrent/digest.firstState", laid_torrent_digest_firstState)] }
def TreeLeavesSaid : Prop := treeLeavesRow.holds Tryd.pinned (OpenSpec.ofChange treeLeavesSpec)

/-- ITS FALSE NEIGHBOUR: 'it returns false'. Refute it at one input. -/
def treeLeavesWrong : ChangeSpec := { name := "treeLeaves", fn := fun _ => fun
  | [d1, d2] => { results := [.lit (.bool false)], args := [d1, d2] }
  | _ => none }
def TreeLeavesWrongFalsely : Prop := treeLeavesRow.holds Tryd.pinned (OpenSpec.ofChange treeLeavesWrong)

/-- 'torrentlaw6.TreeNodes': WHATEVER THE INPUT: true; the input reads as it did. -/
def treeNodesSpec : ChangeSpec := { name := "treeNodes", fn := fun _ => fun
  | [d1, d2, d3, d4] => { results := [.lit (.bool true)], args := [d1, d2, d3, d4] }
  | _ => none }
def treeNodesRow : OpenClaim := { program := "ytjdolgfhcjnniaadoor", sum := "01bf43a03b6ac4717bd568a25b5e1d0bc6640247522f8cde962d8e61972a3095", func := "torrent/torrentlaw6.TreeNodes", spec := "treeNodes", named := ["torrent/digest.firstState", "torrent/digest.roundConstants"], apart := false, laid := [("torrent/digest.roundConstants", laid_torrent_digest_roundConstants), ("torrent/digest.firstState", laid_torrent_digest_firstState)] }
def TreeNodesSaid : Prop := treeNodesRow.holds Tryd.pinned (OpenSpec.ofChange treeNodesSpec)

/-- ITS FALSE NEIGHBOUR: 'it returns false'. Refute it at one input. -/
def treeNodesWrong : ChangeSpec := { name := "treeNodes", fn := fun _ => fun
  | [d1, d2, d3, d4] => { results := [.lit (.bool false)], args := [d1, d2, d3, d4] }
  | _ => none }
def TreeNodesWrongFalsely : Prop := treeNodesRow.holds Tryd.pinned (OpenSpec.ofChange treeNodesWrong)

/-- 'torrentlaw6.TreeLayers': WHATEVER THE INPUT: true; the input reads as it did. -/
def treeLayersSpec : ChangeSpec := { name := "treeLayers", fn := fun _ => fun
  | [d1, d2, d3, d4] => { results := [.lit (.bool true)], args := [d1, d2, d3, d4] }
  | _ => none }
def treeLayersRow : OpenClaim := { program := "ytjdolgfhcjnniaadoor", sum := "01bf43a03b6ac4717bd568a25b5e1d0bc6640247522f8cde962d8e61972a3095", func := "torrent/torrentlaw6.TreeLayers", spec := "treeLayers", recurses := true, named := ["torrent/digest.firstState", "torrent/digest.roundConstants"], apart := false, laid := [("torrent/digest.roundConstants", laid_torrent_digest_roundConstants), ("torrent/digest.firstState", laid_torrent_digest_firstState)] }
def TreeLayersSaid : Prop := treeLayersRow.holds Tryd.pinned (OpenSpec.ofChange treeLayersSpec)

/-- ITS FALSE NEIGHBOUR: 'it returns false'. Refute it at one input. -/
def treeLayersWrong : ChangeSpec := { name := "treeLayers", fn := fun _ => fun
  | [d1, d2, d3, d4] => { results := [.lit (.bool false)], args := [d1, d2, d3, d4] }
  | _ => none }
def TreeLayersWrongFalsely : Prop := treeLayersRow.holds Tryd.pinned (OpenSpec.ofChange treeLayersWrong)

/-- 'torrentlaw6.TreeLayerRoots': WHATEVER THE INPUT: true; the input reads as it did. -/
def treeLayerRootsSpec : ChangeSpec := { name := "treeLayerRoots", fn := fun _ => fun
  | [d1, d2, d3, d4] => { results := [.lit (.bool true)], args := [d1, d2, d3, d4] }
  | _ => none }
def treeLayerRootsRow : OpenClaim := { program := "ytjdolgfhcjnniaadoor", sum := "01bf43a03b6ac4717bd568a25b5e1d0bc6640247522f8cde962d8e61972a3095", func := "torrent/torrentlaw6.TreeLayerRoots", spec := "treeLayerRoots", recurses := true, named := ["torrent/digest.firstState", "torrent/digest.roundConstants"], apart := false, laid := [("torrent/digest.roundConstants", laid_torrent_digest_roundConstants), ("torrent/digest.firstState", laid_torrent_digest_firstState)] }
def TreeLayerRootsSaid : Prop := treeLayerRootsRow.holds Tryd.pinned (OpenSpec.ofChange treeLayerRootsSpec)

/-- ITS FALSE NEIGHBOUR: 'it returns false'. Refute it at one input. -/
def treeLayerRootsWrong : ChangeSpec := { name := "treeLayerRoots", fn := fun _ => fun
  | [d1, d2, d3, d4] => { results := [.lit (.bool false)], args := [d1, d2, d3, d4] }
  | _ => none }
def TreeLayerRootsWrongFalsely : Prop := treeLayerRootsRow.holds Tryd.pinned (OpenSpec.ofChange treeLayerRootsWrong)

/-- 'torrentlaw6.TreeFiles': WHATEVER THE INPUT: true; the input reads as it did. -/
def treeFilesSpec : ChangeSpec := { name := "treeFiles", fn := fun _ => fun
  | [d1, d2, d3, d4] => { results := [.lit (.bool true)], args := [d1, d2, d3, d4] }
  | _ => none }
def treeFilesRow : OpenClaim := { program := "ytjdolgfhcjnniaadoor", sum := "01bf43a03b6ac4717bd568a25b5e1d0bc6640247522f8cde962d8e61972a3095", func := "torrent/torrentlaw6.TreeFiles", spec := "treeFiles", unfollowed := true, recurses := true, named := ["torrent/digest.firstState", "torrent/digest.roundConstants"], apart := false, laid := [("torrent/digest.roundConstants", laid_torrent_digest_roundConstants), ("torrent/digest.firstState", laid_torrent_digest_firstState)] }
def TreeFilesSaid : Prop := treeFilesRow.holds Tryd.pinned (OpenSpec.ofChange treeFilesSpec)

/-- ITS FALSE NEIGHBOUR: 'it returns false'. Refute it at one input. -/
def treeFilesWrong : ChangeSpec := { name := "treeFiles", fn := fun _ => fun
  | [d1, d2, d3, d4] => { results := [.lit (.bool false)], args := [d1, d2, d3, d4] }
  | _ => none }
def TreeFilesWrongFalsely : Prop := treeFilesRow.holds Tryd.pinned (OpenSpec.ofChange treeFilesWrong)

/-- 'torrentlaw6.TreeClimbs': WHATEVER THE INPUT: true; the input reads as it did. -/
def treeClimbsSpec : ChangeSpec := { name := "treeClimbs", fn := fun _ => fun
  | [d1, d2, d3, d4, d5] => { results := [.lit (.bool true)], args := [d1, d2, d3, d4, d5] }
  | _ => none }
def treeClimbsRow : OpenClaim := { program := "ytjdolgfhcjnniaadoor", sum := "01bf43a03b6ac4717bd568a25b5e1d0bc6640247522f8cde962d8e61972a3095", func := "torrent/torrentlaw6.TreeClimbs", spec := "treeClimbs", unfollowed := true, recurses := true, named := ["torrent/digest.firstState", "torrent/digest.roundConstants"], apart := false, laid := [("torrent/digest.roundConstants", laid_torrent_digest_roundConstants), ("torrent/digest.firstState", laid_torrent_digest_firstState)] }
def TreeClimbsSaid : Prop := treeClimbsRow.holds Tryd.pinned (OpenSpec.ofChange treeClimbsSpec)

/-- ITS FALSE NEIGHBOUR: 'it returns false'. Refute it at one input. -/
def treeClimbsWrong : ChangeSpec := { name := "treeClimbs", fn := fun _ => fun
  | [d1, d2, d3, d4, d5] => { results := [.lit (.bool false)], args := [d1, d2, d3, d4, d5] }
  | _ => none }
def TreeClimbsWrongFalsely : Prop := treeClimbsRow.holds Tryd.pinned (OpenSpec.ofChange treeClimbsWrong)

/-- 'torrentlaw6.TreeFolds': WHATEVER THE INPUT: true; the input reads as it did. -/
def treeFoldsSpec : ChangeSpec := { name := "treeFolds", fn := fun _ => fun
  | [d1, d2] => { results := [.lit (.bool true)], args := [d1, d2] }
  | _ => none }
def treeFoldsRow : OpenClaim := { program := "ytjdolgfhcjnniaadoor", sum := "01bf43a03b6ac4717bd568a25b5e1d0bc6640247522f8cde962d8e61972a3095", func := "torrent/torrentlaw6.TreeFolds", spec := "treeFolds", unfollowed := true, recurses := true, named := ["torrent/digest.firstState", "torrent/digest.roundConstants"], apart := false, laid := [("torrent/digest.roundConstants", laid_torrent_digest_roundConstants), ("torrent/digest.firstState", laid_torrent_digest_firstState)] }
def TreeFoldsSaid : Prop := treeFoldsRow.holds Tryd.pinned (OpenSpec.ofChange treeFoldsSpec)

/-- ITS FALSE NEIGHBOUR: 'it returns false'. Refute it at one input. -/
def treeFoldsWrong : ChangeSpec := { name := "treeFolds", fn := fun _ => fun
  | [d1, d2] => { results := [.lit (.bool false)], args := [d1, d2] }
  | _ => none }
def TreeFoldsWrongFalsely : Prop := treeFoldsRow.holds Tryd.pinned (OpenSpec.ofChange treeFoldsWrong)

/-- 'torrentlaw6.TreeHalves': WHATEVER THE INPUT: true; the input reads as it did. -/
def treeHalvesSpec : ChangeSpec := { name := "treeHalves", fn := fun _ => fun
  | [d1, d2, d3] => { results := [.lit (.bool true)], args := [d1, d2, d3] }
  | _ => none }
def treeHalvesRow : OpenClaim := { program := "ytjdolgfhcjnniaadoor", sum := "01bf43a03b6ac4717bd568a25b5e1d0bc6640247522f8cde962d8e61972a3095", func := "torrent/torrentlaw6.TreeHalves", spec := "treeHalves", unfollowed := true, recurses := true, named := ["torrent/digest.firstState", "torrent/digest.roundConstants"], apart := false, laid := [("torrent/digest.roundConstants", laid_torrent_digest_roundConstants), ("torrent/digest.firstState", laid_torrent_digest_firstState)] }
def TreeHalvesSaid : Prop := treeHalvesRow.holds Tryd.pinned (OpenSpec.ofChange treeHalvesSpec)

/-- ITS FALSE NEIGHBOUR: 'it returns false'. Refute it at one input. -/
def treeHalvesWrong : ChangeSpec := { name := "treeHalves", fn := fun _ => fun
  | [d1, d2, d3] => { results := [.lit (.bool false)], args := [d1, d2, d3] }
  | _ => none }
def TreeHalvesWrongFalsely : Prop := treeHalvesRow.holds Tryd.pinned (OpenSpec.ofChange treeHalvesWrong)

/-- 'torrentlaw6.TreeBuilds': WHATEVER THE INPUT: true; the input reads as it did. -/
def treeBuildsSpec : ChangeSpec := { name := "treeBuilds", fn := fun _ => fun
  | [d] => { results := [.lit (.bool true)], args := [d] }
  | _ => none }
def treeBuildsRow : OpenClaim := { program := "ytjdolgfhcjnniaadoor", sum := "01bf43a03b6ac4717bd568a25b5e1d0bc6640247522f8cde962d8e61972a3095", func := "torrent/torrentlaw6.TreeBuilds", spec := "treeBuilds", unfollowed := true, recurses := true, named := ["torrent/digest.firstState", "torrent/digest.roundConstants"], apart := false, laid := [("torrent/digest.roundConstants", laid_torrent_digest_roundConstants), ("torrent/digest.firstState", laid_torrent_digest_firstState)] }
def TreeBuildsSaid : Prop := treeBuildsRow.holds Tryd.pinned (OpenSpec.ofChange treeBuildsSpec)

/-- ITS FALSE NEIGHBOUR: 'it returns false'. Refute it at one input. -/
def treeBuildsWrong : ChangeSpec := { name := "treeBuilds", fn := fun _ => fun
  | [d] => { results := [.lit (.bool false)], args := [d] }
  | _ => none }
def TreeBuildsWrongFalsely : Prop := treeBuildsRow.holds Tryd.pinned (OpenSpec.ofChange treeBuildsWrong)

/-- 'torrentlaw6.TreePieces': WHATEVER THE INPUT: true; the input reads as it did. -/
def treePiecesSpec : ChangeSpec := { name := "treePieces", fn := fun _ => fun
  | [d1, d2, d3] => { results := [.lit (.bool true)], args := [d1, d2, d3] }
  | _ => none }
def treePiecesRow : OpenClaim := { program := "ytjdolgfhcjnniaadoor", sum := "01bf43a03b6ac4717bd568a25b5e1d0bc6640247522f8cde962d8e61972a3095", func := "torrent/torrentlaw6.TreePieces", spec := "treePieces", unfollowed := true, recurses := true, named := ["torrent/digest.firstState", "torrent/digest.roundConstants"], apart := false, laid := [("torrent/digest.roundConstants", laid_torrent_digest_roundConstants), ("torrent/digest.firstState", laid_torrent_digest_firstState)] }
def TreePiecesSaid : Prop := treePiecesRow.holds Tryd.pinned (OpenSpec.ofChange treePiecesSpec)

/-- ITS FALSE NEIGHBOUR: 'it returns false'. Refute it at one input. -/
def treePiecesWrong : ChangeSpec := { name := "treePieces", fn := fun _ => fun
  | [d1, d2, d3] => { results := [.lit (.bool false)], args := [d1, d2, d3] }
  | _ => none }
def TreePiecesWrongFalsely : Prop := treePiecesRow.holds Tryd.pinned (OpenSpec.ofChange treePiecesWrong)

/-- 'torrentlaw6.TreePads': WHATEVER THE INPUT: true; the input reads as it did. -/
def treePadsSpec : ChangeSpec := { name := "treePads", fn := fun _ => fun
  | [d1, d2, d3, d4] => { results := [.lit (.bool true)], args := [d1, d2, d3, d4] }
  | _ => none }
def treePadsRow : OpenClaim := { program := "ytjdolgfhcjnniaadoor", sum := "01bf43a03b6ac4717bd568a25b5e1d0bc6640247522f8cde962d8e61972a3095", func := "torrent/torrentlaw6.TreePads", spec := "treePads", unfollowed := true, recurses := true, named := ["torrent/digest.firstState", "torrent/digest.roundConstants"], apart := false, laid := [("torrent/digest.roundConstants", laid_torrent_digest_roundConstants), ("torrent/digest.firstState", laid_torrent_digest_firstState)] }
def TreePadsSaid : Prop := treePadsRow.holds Tryd.pinned (OpenSpec.ofChange treePadsSpec)

/-- ITS FALSE NEIGHBOUR: 'it returns false'. Refute it at one input. -/
def treePadsWrong : ChangeSpec := { name := "treePads", fn := fun _ => fun
  | [d1, d2, d3, d4] => { results := [.lit (.bool false)], args := [d1, d2, d3, d4] }
  | _ => none }
def TreePadsWrongFalsely : Prop := treePadsRow.holds Tryd.pinned (OpenSpec.ofChange treePadsWrong)

/-- 'torrentlaw6.TreeStreams': WHATEVER THE INPUT: true; the input reads as it did. -/
def treeStreamsSpec : ChangeSpec := { name := "treeStreams", fn := fun _ => fun
  | [d1, d2, d3, d4, d5] => { results := [.lit (.bool true)], args := [d1, d2, d3, d4, d5] }
  | _ => none }
def treeStreamsRow : OpenClaim := { program := "ytjdolgfhcjnniaadoor", sum := "01bf43a03b6ac4717bd568a25b5e1d0bc6640247522f8cde962d8e61972a3095", func := "torrent/torrentlaw6.TreeStreams", spec := "treeStreams", unfollowed := true, recurses := true, named := ["torrent/digest.firstState", "torrent/digest.roundConstants"], apart := false, laid := [("torrent/digest.roundConstants", laid_torrent_digest_roundConstants), ("torrent/digest.firstState", laid_torrent_digest_firstState)] }
def TreeStreamsSaid : Prop := treeStreamsRow.holds Tryd.pinned (OpenSpec.ofChange treeStreamsSpec)

/-- ITS FALSE NEIGHBOUR: 'it returns false'. Refute it at one input. -/
def treeStreamsWrong : ChangeSpec := { name := "treeStreams", fn := fun _ => fun
  | [d1, d2, d3, d4, d5] => { results := [.lit (.bool false)], args := [d1, d2, d3, d4, d5] }
  | _ => none }
def TreeStreamsWrongFalsely : Prop := treeStreamsRow.holds Tryd.pinned (OpenSpec.ofChange treeStreamsWrong)

/-- 'torrentlaw6.TreeOwn': WHATEVER THE INPUT: true; the input reads as it did. -/
def treeOwnSpec : ChangeSpec := { name := "treeOwn", fn := fun _ => fun
  | [d1, d2, d3, d4, d5, d6] => { results := [.lit (.bool true)], args := [d1, d2, d3, d4, d5, d6] }
  | _ => none }
def treeOwnRow : OpenClaim := { program := "ytjdolgfhcjnniaadoor", sum := "01bf43a03b6ac4717bd568a25b5e1d0bc6640247522f8cde962d8e61972a3095", func := "torrent/torrentlaw6.TreeOwn", spec := "treeOwn", unfollowed := true, recurses := true, named := ["torrent/digest.firstState", "torrent/digest.roundConstants"], apart := false, laid := [("torrent/digest.roundConstants", laid_torrent_digest_roundConstants), ("torrent/digest.firstState", laid_torrent_digest_firstState)] }
def TreeOwnSaid : Prop := treeOwnRow.holds Tryd.pinned (OpenSpec.ofChange treeOwnSpec)

/-- ITS FALSE NEIGHBOUR: 'it returns false'. Refute it at one input. -/
def treeOwnWrong : ChangeSpec := { name := "treeOwn", fn := fun _ => fun
  | [d1, d2, d3, d4, d5, d6] => { results := [.lit (.bool false)], args := [d1, d2, d3, d4, d5, d6] }
  | _ => none }
def TreeOwnWrongFalsely : Prop := treeOwnRow.holds Tryd.pinned (OpenSpec.ofChange treeOwnWrong)

/- THE SECOND FORM. 'bulk': how many values and letters a reading holds, each counted each time it is reached (what is shared counts as often as it is met; a slice's spare places count too). A statement '..UptoSaid' is the law's where the arguments, and the package variables that the reading takes, are together of bulk at most 1048576: NARROWER than '..Said'. Prove '..Said' where nothing that the law and all that it calls make is longer than what came in: it says more and counts as full. Else prove '..UptoSaid'. A law counts once. -/
mutual
def uptoBulk {H : Type} : DataW H → Nat
  | .lit (.string bytes) => bytes.length + 1
  | .lit _ => 1
  | .nil => 1
  | .ptr d => uptoBulk d + 1
  | .slice elems spare => uptoBulkAll elems + uptoBulkAll spare + 1
  | .agg parts => uptoBulkAll parts + 1
  | .iface _ d => uptoBulk d + 1
  | .map entries => uptoBulkEntries entries + 1
  | .held _ => 1
def uptoBulkAll {H : Type} : List (DataW H) → Nat
  | [] => 0
  | d :: r => uptoBulk d + uptoBulkAll r
def uptoBulkEntries {H : Type} : List (Lit × DataW H) → Nat
  | [] => 0
  | x :: r => uptoBulkEntry x + uptoBulkEntries r
def uptoBulkEntry {H : Type} : Lit × DataW H → Nat
  | (.string bytes, d) => bytes.length + uptoBulk d + 1
  | (_, d) => uptoBulk d + 1
 end
def uptoSmall : (H : Type) → List (DataW H) → Bool := fun _ ds => decide (uptoBulkAll ds ≤ 1048576)
def OpenSpec.upto (s : _root_.Go.ChangeSpec) : _root_.Go.OpenSpec := { _root_.Go.OpenSpec.ofChange s with cond := some uptoSmall }

/-- 'torrentlaw6.TreeLeaves', WHERE WHAT IT READS IS OF BULK AT MOST 1048576: true; the input reads as it did. -/
def treeLeavesUptoRow : OpenClaim := { program := "ytjdolgfhcjnniaadoor", sum := "01bf43a03b6ac4717bd568a25b5e1d0bc6640247522f8cde962d8e61972a3095", func := "torrent/torrentlaw6.TreeLeaves", spec := "treeLeaves", unfollowed := true, recurses := true, named := ["torrent/digest.firstState", "torrent/digest.roundConstants"], apart := false, laid := [("torrent/digest.roundConstants", laid_torrent_digest_roundConstants), ("torrent/digest.firstState", laid_torrent_digest_firstState)], narrowed := true }
def TreeLeavesUptoSaid : Prop := treeLeavesUptoRow.holds Tryd.pinned (OpenSpec.upto treeLeavesSpec)

/-- 'torrentlaw6.TreeNodes', WHERE WHAT IT READS IS OF BULK AT MOST 1048576: true; the input reads as it did. -/
def treeNodesUptoRow : OpenClaim := { program := "ytjdolgfhcjnniaadoor", sum := "01bf43a03b6ac4717bd568a25b5e1d0bc6640247522f8cde962d8e61972a3095", func := "torrent/torrentlaw6.TreeNodes", spec := "treeNodes", named := ["torrent/digest.firstState", "torrent/digest.roundConstants"], apart := false, laid := [("torrent/digest.roundConstants", laid_torrent_digest_roundConstants), ("torrent/digest.firstState", laid_torrent_digest_firstState)], narrowed := true }
def TreeNodesUptoSaid : Prop := treeNodesUptoRow.holds Tryd.pinned (OpenSpec.upto treeNodesSpec)

/-- 'torrentlaw6.TreeLayers', WHERE WHAT IT READS IS OF BULK AT MOST 1048576: true; the input reads as it did. -/
def treeLayersUptoRow : OpenClaim := { program := "ytjdolgfhcjnniaadoor", sum := "01bf43a03b6ac4717bd568a25b5e1d0bc6640247522f8cde962d8e61972a3095", func := "torrent/torrentlaw6.TreeLayers", spec := "treeLayers", recurses := true, named := ["torrent/digest.firstState", "torrent/digest.roundConstants"], apart := false, laid := [("torrent/digest.roundConstants", laid_torrent_digest_roundConstants), ("torrent/digest.firstState", laid_torrent_digest_firstState)], narrowed := true }
def TreeLayersUptoSaid : Prop := treeLayersUptoRow.holds Tryd.pinned (OpenSpec.upto treeLayersSpec)

/-- 'torrentlaw6.TreeLayerRoots', WHERE WHAT IT READS IS OF BULK AT MOST 1048576: true; the input reads as it did. -/
def treeLayerRootsUptoRow : OpenClaim := { program := "ytjdolgfhcjnniaadoor", sum := "01bf43a03b6ac4717bd568a25b5e1d0bc6640247522f8cde962d8e61972a3095", func := "torrent/torrentlaw6.TreeLayerRoots", spec := "treeLayerRoots", recurses := true, named := ["torrent/digest.firstState", "torrent/digest.roundConstants"], apart := false, laid := [("torrent/digest.roundConstants", laid_torrent_digest_roundConstants), ("torrent/digest.firstState", laid_torrent_digest_firstState)], narrowed := true }
def TreeLayerRootsUptoSaid : Prop := treeLayerRootsUptoRow.holds Tryd.pinned (OpenSpec.upto treeLayerRootsSpec)

/-- 'torrentlaw6.TreeFiles', WHERE WHAT IT READS IS OF BULK AT MOST 1048576: true; the input reads as it did. -/
def treeFilesUptoRow : OpenClaim := { program := "ytjdolgfhcjnniaadoor", sum := "01bf43a03b6ac4717bd568a25b5e1d0bc6640247522f8cde962d8e61972a3095", func := "torrent/torrentlaw6.TreeFiles", spec := "treeFiles", unfollowed := true, recurses := true, named := ["torrent/digest.firstState", "torrent/digest.roundConstants"], apart := false, laid := [("torrent/digest.roundConstants", laid_torrent_digest_roundConstants), ("torrent/digest.firstState", laid_torrent_digest_firstState)], narrowed := true }
def TreeFilesUptoSaid : Prop := treeFilesUptoRow.holds Tryd.pinned (OpenSpec.upto treeFilesSpec)

/-- 'torrentlaw6.TreeClimbs', WHERE WHAT IT READS IS OF BULK AT MOST 1048576: true; the input reads as it did. -/
def treeClimbsUptoRow : OpenClaim := { program := "ytjdolgfhcjnniaadoor", sum := "01bf43a03b6ac4717bd568a25b5e1d0bc6640247522f8cde962d8e61972a3095", func := "torrent/torrentlaw6.TreeClimbs", spec := "treeClimbs", unfollowed := true, recurses := true, named := ["torrent/digest.firstState", "torrent/digest.roundConstants"], apart := false, laid := [("torrent/digest.roundConstants", laid_torrent_digest_roundConstants), ("torrent/digest.firstState", laid_torrent_digest_firstState)], narrowed := true }
def TreeClimbsUptoSaid : Prop := treeClimbsUptoRow.holds Tryd.pinned (OpenSpec.upto treeClimbsSpec)

/-- 'torrentlaw6.TreeFolds', WHERE WHAT IT READS IS OF BULK AT MOST 1048576: true; the input reads as it did. -/
def treeFoldsUptoRow : OpenClaim := { program := "ytjdolgfhcjnniaadoor", sum := "01bf43a03b6ac4717bd568a25b5e1d0bc6640247522f8cde962d8e61972a3095", func := "torrent/torrentlaw6.TreeFolds", spec := "treeFolds", unfollowed := true, recurses := true, named := ["torrent/digest.firstState", "torrent/digest.roundConstants"], apart := false, laid := [("torrent/digest.roundConstants", laid_torrent_digest_roundConstants), ("torrent/digest.firstState", laid_torrent_digest_firstState)], narrowed := true }
def TreeFoldsUptoSaid : Prop := treeFoldsUptoRow.holds Tryd.pinned (OpenSpec.upto treeFoldsSpec)

/-- 'torrentlaw6.TreeHalves', WHERE WHAT IT READS IS OF BULK AT MOST 1048576: true; the input reads as it did. -/
def treeHalvesUptoRow : OpenClaim := { program := "ytjdolgfhcjnniaadoor", sum := "01bf43a03b6ac4717bd568a25b5e1d0bc6640247522f8cde962d8e61972a3095", func := "torrent/torrentlaw6.TreeHalves", spec := "treeHalves", unfollowed := true, recurses := true, named := ["torrent/digest.firstState", "torrent/digest.roundConstants"], apart := false, laid := [("torrent/digest.roundConstants", laid_torrent_digest_roundConstants), ("torrent/digest.firstState", laid_torrent_digest_firstState)], narrowed := true }
def TreeHalvesUptoSaid : Prop := treeHalvesUptoRow.holds Tryd.pinned (OpenSpec.upto treeHalvesSpec)

/-- 'torrentlaw6.TreeBuilds', WHERE WHAT IT READS IS OF BULK AT MOST 1048576: true; the input reads as it did. -/
def treeBuildsUptoRow : OpenClaim := { program := "ytjdolgfhcjnniaadoor", sum := "01bf43a03b6ac4717bd568a25b5e1d0bc6640247522f8cde962d8e61972a3095", func := "torrent/torrentlaw6.TreeBuilds", spec := "treeBuilds", unfollowed := true, recurses := true, named := ["torrent/digest.firstState", "torrent/digest.roundConstants"], apart := false, laid := [("torrent/digest.roundConstants", laid_torrent_digest_roundConstants), ("torrent/digest.firstState", laid_torrent_digest_firstState)], narrowed := true }
def TreeBuildsUptoSaid : Prop := treeBuildsUptoRow.holds Tryd.pinned (OpenSpec.upto treeBuildsSpec)

/-- 'torrentlaw6.TreePieces', WHERE WHAT IT READS IS OF BULK AT MOST 1048576: true; the input reads as it did. -/
def treePiecesUptoRow : OpenClaim := { program := "ytjdolgfhcjnniaadoor", sum := "01bf43a03b6ac4717bd568a25b5e1d0bc6640247522f8cde962d8e61972a3095", func := "torrent/torrentlaw6.TreePieces", spec := "treePieces", unfollowed := true, recurses := true, named := ["torrent/digest.firstState", "torrent/digest.roundConstants"], apart := false, laid := [("torrent/digest.roundConstants", laid_torrent_digest_roundConstants), ("torrent/digest.firstState", laid_torrent_digest_firstState)], narrowed := true }
def TreePiecesUptoSaid : Prop := treePiecesUptoRow.holds Tryd.pinned (OpenSpec.upto treePiecesSpec)

/-- 'torrentlaw6.TreePads', WHERE WHAT IT READS IS OF BULK AT MOST 1048576: true; the input reads as it did. -/
def treePadsUptoRow : OpenClaim := { program := "ytjdolgfhcjnniaadoor", sum := "01bf43a03b6ac4717bd568a25b5e1d0bc6640247522f8cde962d8e61972a3095", func := "torrent/torrentlaw6.TreePads", spec := "treePads", unfollowed := true, recurses := true, named := ["torrent/digest.firstState", "torrent/digest.roundConstants"], apart := false, laid := [("torrent/digest.roundConstants", laid_torrent_digest_roundConstants), ("torrent/digest.firstState", laid_torrent_digest_firstState)], narrowed := true }
def TreePadsUptoSaid : Prop := treePadsUptoRow.holds Tryd.pinned (OpenSpec.upto treePadsSpec)

/-- 'torrentlaw6.TreeStreams', WHERE WHAT IT READS IS OF BULK AT MOST 1048576: true; the input reads as it did. -/
def treeStreamsUptoRow : OpenClaim := { program := "ytjdolgfhcjnniaadoor", sum := "01bf43a03b6ac4717bd568a25b5e1d0bc6640247522f8cde962d8e61972a3095", func := "torrent/torrentlaw6.TreeStreams", spec := "treeStreams", unfollowed := true, recurses := true, named := ["torrent/digest.firstState", "torrent/digest.roundConstants"], apart := false, laid := [("torrent/digest.roundConstants", laid_torrent_digest_roundConstants), ("torrent/digest.firstState", laid_torrent_digest_firstState)], narrowed := true }
def TreeStreamsUptoSaid : Prop := treeStreamsUptoRow.holds Tryd.pinned (OpenSpec.upto treeStreamsSpec)

/-- 'torrentlaw6.TreeOwn', WHERE WHAT IT READS IS OF BULK AT MOST 1048576: true; the input reads as it did. -/
def treeOwnUptoRow : OpenClaim := { program := "ytjdolgfhcjnniaadoor", sum := "01bf43a03b6ac4717bd568a25b5e1d0bc6640247522f8cde962d8e61972a3095", func := "torrent/torrentlaw6.TreeOwn", spec := "treeOwn", unfollowed := true, recurses := true, named := ["torrent/digest.firstState", "torrent/digest.roundConstants"], apart := false, laid := [("torrent/digest.roundConstants", laid_torrent_digest_roundConstants), ("torrent/digest.firstState", laid_torrent_digest_firstState)], narrowed := true }
def TreeOwnUptoSaid : Prop := treeOwnUptoRow.holds Tryd.pinned (OpenSpec.upto treeOwnSpec)

end Rows
end Go.Proofs.YtjdolgfhcjnniaaDoor

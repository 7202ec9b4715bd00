/-
  NARROWER THAN 'FOR EVERY INPUT', by the rows' own cells (each row's printed sentence says how): DigestTables: laid · DigestCompresses: laid · DigestFolds: laid · DigestCuts: laid · DigestResumes: laid · DigestClashes: laid · DigestStreams: laid · DigestCutting: laid · DigestKept: laid.
  DERIVED. THE GIVEN ROWS OF THIS SEAT. 9 by the template 'for every input the law returns true; each argument reads behind the call as it read before'; 0 by the template 'total and deterministic' (their statements: YtcpbfnbfbladoaaDoorTotals.lean).
  GIVEN WITH THE SEED: the statements are not yours to turn. If you find one false, say at which input.
  Laid BY PROGRAM, IN A SANDBOX (cutbox-rows.mjs): the forced cells as the released guide's own fill.sh prints them over the translation 4f6534d222a9ff4b… (all of the seat's roots in one cut). By AI agents, Wed Nov 11 2026. No macro, syntax, notation, axiom, sorry.
-/
import Derived.Test.YtcpbfnbfbladoaaDoorChecked
import GoSem.Claim
import GoSem.ClaimJoined
import GoSem.ClaimMapViews
import Derived.JoinedTies
import Derived.KernelRfl
namespace Go.Proofs.YtcpbfnbfbladoaaDoor
/- THE CELL 'sum', in the pinned program and in every row, IS THE sha256 OF THE DUMP (.gsa) THAT YtcpbfnbfbladoaaDoorProg.lean LOADS. Nothing in Lean hashes anything: it is a label: what it is worth is what the hold of that sum in a sandbox is worth. -/
noncomputable def Tryd.pinned : Pinned := { name := "ytcpbfnbfbladoaadoor", sum := "4f6534d222a9ff4b08f8be351ff66bfca8e6d5d3f5a3277d2e871fd5d83d448d", checked := Tryd.checked }
namespace Rows
def none {H : Type} : Left H := { results := [], args := [] }

/- WHAT THE LISTED PACKAGE-LEVEL VARIABLES READ AS WHEN THE CALL BEGINS. Each datum BY PROGRAM (the guide's laid-datum.mjs) off the statement by which the dump's own 'gosem.cut.vars' lays the variable. In a bare row this is a premise. The card (YtcpbfnbfbladoaaDoorCards.lean) ties it to the program's text. -/
def laid_torrent_digest_roundConstants {H : Type} : DataW H := .agg [.lit (.int .u32 1116352408), .lit (.int .u32 1899447441), .lit (.int .u32 3049323471), .lit (.int .u32 3921009573), .lit (.int .u32 961987163), .lit (.int .u32 1508970993), .lit (.int .u32 2453635748), .lit (.int .u32 2870763221), .lit (.int .u32 3624381080), .lit (.int .u32 310598401), .lit (.int .u32 607225278), .lit (.int .u32 1426881987), .lit (.int .u32 1925078388), .lit (.int .u32 2162078206), .lit (.int .u32 2614888103), .lit (.int .u32 3248222580), .lit (.int .u32 3835390401), .lit (.int .u32 4022224774), .lit (.int .u32 264347078), .lit (.int .u32 604807628), .lit (.int .u32 770255983), .lit (.int .u32 1249150122), .lit (.int .u32 1555081692), .lit (.int .u32 1996064986), .lit (.int .u32 2554220882), .lit (.int .u32 2821834349), .lit (.int .u32 2952996808), .lit (.int .u32 3210313671), .lit (.int .u32 3336571891), .lit (.int .u32 3584528711), .lit (.int .u32 113926993), .lit (.int .u32 338241895), .lit (.int .u32 666307205), .lit (.int .u32 773529912), .lit (.int .u32 1294757372), .lit (.int .u32 1396182291), .lit (.int .u32 1695183700), .lit (.int .u32 1986661051), .lit (.int .u32 2177026350), .lit (.int .u32 2456956037), .lit (.int .u32 2730485921), .lit (.int .u32 2820302411), .lit (.int .u32 3259730800), .lit (.int .u32 3345764771), .lit (.int .u32 3516065817), .lit (.int .u32 3600352804), .lit (.int .u32 4094571909), .lit (.int .u32 275423344), .lit (.int .u32 430227734), .lit (.int .u32 506948616), .lit (.int .u32 659060556), .lit (.int .u32 883997877), .lit (.int .u32 958139571), .lit (.int .u32 1322822218), .lit (.int .u32 1537002063), .lit (.int .u32 1747873779), .lit (.int .u32 1955562222), .lit (.int .u32 2024104815), .lit (.int .u32 2227730452), .lit (.int .u32 2361852424), .lit (.int .u32 2428436474), .lit (.int .u32 2756734187), .lit (.int .u32 3204031479), .lit (.int .u32 3329325298)]
def laid_torrent_digest_firstState {H : Type} : DataW H := .agg [.lit (.int .u32 1779033703), .lit (.int .u32 3144134277), .lit (.int .u32 1013904242), .lit (.int .u32 2773480762), .lit (.int .u32 1359893119), .lit (.int .u32 2600822924), .lit (.int .u32 528734635), .lit (.int .u32 1541459225)]

/-- 'torrentlaw1.DigestTables': WHATEVER THE INPUT: true; the input reads as it did. -/
def digestTablesSpec : ChangeSpec := { name := "digestTables", fn := fun _ => fun
  | [] => { results := [.lit (.bool true)], args := [] }
  | _ => none }
def digestTablesRow : OpenClaim := { program := "ytcpbfnbfbladoaadoor", sum := "4f6534d222a9ff4b08f8be351ff66bfca8e6d5d3f5a3277d2e871fd5d83d448d", func := "torrent/torrentlaw1.DigestTables", spec := "digestTables", named := ["torrent/digest.roundConstants", "torrent/digest.firstState"], apart := false, laid := [("torrent/digest.roundConstants", laid_torrent_digest_roundConstants), ("torrent/digest.firstState", laid_torrent_digest_firstState)] }
def DigestTablesSaid : Prop := digestTablesRow.holds Tryd.pinned (OpenSpec.ofChange digestTablesSpec)

/-- ITS FALSE NEIGHBOUR: 'it returns false'. Refute it at one input. -/
def digestTablesWrong : ChangeSpec := { name := "digestTables", fn := fun _ => fun
  | [] => { results := [.lit (.bool false)], args := [] }
  | _ => none }
def DigestTablesWrongFalsely : Prop := digestTablesRow.holds Tryd.pinned (OpenSpec.ofChange digestTablesWrong)

/-- 'torrentlaw1.DigestCompresses': WHATEVER THE INPUT: true; the input reads as it did. -/
def digestCompressesSpec : ChangeSpec := { name := "digestCompresses", fn := fun _ => fun
  | [d1, d2] => { results := [.lit (.bool true)], args := [d1, d2] }
  | _ => none }
def digestCompressesRow : OpenClaim := { program := "ytcpbfnbfbladoaadoor", sum := "4f6534d222a9ff4b08f8be351ff66bfca8e6d5d3f5a3277d2e871fd5d83d448d", func := "torrent/torrentlaw1.DigestCompresses", spec := "digestCompresses", named := ["torrent/digest.roundConstants"], apart := false, laid := [("torrent/digest.roundConstants", laid_torrent_digest_roundConstants)] }
def DigestCompressesSaid : Prop := digestCompressesRow.holds Tryd.pinned (OpenSpec.ofChange digestCompressesSpec)

/-- ITS FALSE NEIGHBOUR: 'it returns false'. Refute it at one input. -/
def digestCompressesWrong : ChangeSpec := { name := "digestCompresses", fn := fun _ => fun
  | [d1, d2] => { results := [.lit (.bool false)], args := [d1, d2] }
  | _ => none }
def DigestCompressesWrongFalsely : Prop := digestCompressesRow.holds Tryd.pinned (OpenSpec.ofChange digestCompressesWrong)

/-- 'torrentlaw1.DigestFolds': WHATEVER THE INPUT: true; the input reads as it did. -/
def digestFoldsSpec : ChangeSpec := { name := "digestFolds", fn := fun _ => fun
  | [d] => { results := [.lit (.bool true)], args := [d] }
  | _ => none }
def digestFoldsRow : OpenClaim := { program := "ytcpbfnbfbladoaadoor", sum := "4f6534d222a9ff4b08f8be351ff66bfca8e6d5d3f5a3277d2e871fd5d83d448d", func := "torrent/torrentlaw1.DigestFolds", spec := "digestFolds", named := ["torrent/digest.roundConstants", "torrent/digest.firstState"], apart := false, laid := [("torrent/digest.roundConstants", laid_torrent_digest_roundConstants), ("torrent/digest.firstState", laid_torrent_digest_firstState)] }
def DigestFoldsSaid : Prop := digestFoldsRow.holds Tryd.pinned (OpenSpec.ofChange digestFoldsSpec)

/-- ITS FALSE NEIGHBOUR: 'it returns false'. Refute it at one input. -/
def digestFoldsWrong : ChangeSpec := { name := "digestFolds", fn := fun _ => fun
  | [d] => { results := [.lit (.bool false)], args := [d] }
  | _ => none }
def DigestFoldsWrongFalsely : Prop := digestFoldsRow.holds Tryd.pinned (OpenSpec.ofChange digestFoldsWrong)

/-- 'torrentlaw1.DigestCuts': WHATEVER THE INPUT: true; the input reads as it did. -/
def digestCutsSpec : ChangeSpec := { name := "digestCuts", fn := fun _ => fun
  | [d1, d2, d3] => { results := [.lit (.bool true)], args := [d1, d2, d3] }
  | _ => none }
def digestCutsRow : OpenClaim := { program := "ytcpbfnbfbladoaadoor", sum := "4f6534d222a9ff4b08f8be351ff66bfca8e6d5d3f5a3277d2e871fd5d83d448d", func := "torrent/torrentlaw1.DigestCuts", spec := "digestCuts", named := ["torrent/digest.firstState", "torrent/digest.roundConstants"], apart := false, laid := [("torrent/digest.roundConstants", laid_torrent_digest_roundConstants), ("torrent/digest.firstState", laid_torrent_digest_firstState)] }
def DigestCutsSaid : Prop := digestCutsRow.holds Tryd.pinned (OpenSpec.ofChange digestCutsSpec)

/-- ITS FALSE NEIGHBOUR: 'it returns false'. Refute it at one input. -/
def digestCutsWrong : ChangeSpec := { name := "digestCuts", fn := fun _ => fun
  | [d1, d2, d3] => { results := [.lit (.bool false)], args := [d1, d2, d3] }
  | _ => none }
def DigestCutsWrongFalsely : Prop := digestCutsRow.holds Tryd.pinned (OpenSpec.ofChange digestCutsWrong)

/-- 'torrentlaw1.DigestResumes': WHATEVER THE INPUT: true; the input reads as it did. -/
def digestResumesSpec : ChangeSpec := { name := "digestResumes", fn := fun _ => fun
  | [d1, d2] => { results := [.lit (.bool true)], args := [d1, d2] }
  | _ => none }
def digestResumesRow : OpenClaim := { program := "ytcpbfnbfbladoaadoor", sum := "4f6534d222a9ff4b08f8be351ff66bfca8e6d5d3f5a3277d2e871fd5d83d448d", func := "torrent/torrentlaw1.DigestResumes", spec := "digestResumes", named := ["torrent/digest.firstState", "torrent/digest.roundConstants"], apart := false, laid := [("torrent/digest.roundConstants", laid_torrent_digest_roundConstants), ("torrent/digest.firstState", laid_torrent_digest_firstState)] }
def DigestResumesSaid : Prop := digestResumesRow.holds Tryd.pinned (OpenSpec.ofChange digestResumesSpec)

/-- ITS FALSE NEIGHBOUR: 'it returns false'. Refute it at one input. -/
def digestResumesWrong : ChangeSpec := { name := "digestResumes", fn := fun _ => fun
  | [d1, d2] => { results := [.lit (.bool false)], args := [d1, d2] }
  | _ => none }
def DigestResumesWrongFalsely : Prop := digestResumesRow.holds Tryd.pinned (OpenSpec.ofChange digestResumesWrong)

/-- 'torrentlaw1.DigestClashes': WHATEVER THE INPUT: true; the input reads as it did. -/
def digestClashesSpec : ChangeSpec := { name := "digestClashes", fn := fun _ => fun
  | [d1, d2, d3] => { results := [.lit (.bool true)], args := [d1, d2, d3] }
  | _ => none }
def digestClashesRow : OpenClaim := { program := "ytcpbfnbfbladoaadoor", sum := "4f6534d222a9ff4b08f8be351ff66bfca8e6d5d3f5a3277d2e871fd5d83d448d", func := "torrent/torrentlaw1.DigestClashes", spec := "digestClashes", named := ["torrent/digest.firstState", "torrent/digest.roundConstants"], apart := false, laid := [("torrent/digest.roundConstants", laid_torrent_digest_roundConstants), ("torrent/digest.firstState", laid_torrent_digest_firstState)] }
def DigestClashesSaid : Prop := digestClashesRow.holds Tryd.pinned (OpenSpec.ofChange digestClashesSpec)

/-- ITS FALSE NEIGHBOUR: 'it returns false'. Refute it at one input. -/
def digestClashesWrong : ChangeSpec := { name := "digestClashes", fn := fun _ => fun
  | [d1, d2, d3] => { results := [.lit (.bool false)], args := [d1, d2, d3] }
  | _ => none }
def DigestClashesWrongFalsely : Prop := digestClashesRow.holds Tryd.pinned (OpenSpec.ofChange digestClashesWrong)

/-- 'torrentlaw1.DigestStreams': WHATEVER THE INPUT: true; the input reads as it did. -/
def digestStreamsSpec : ChangeSpec := { name := "digestStreams", fn := fun _ => fun
  | [d] => { results := [.lit (.bool true)], args := [d] }
  | _ => none }
def digestStreamsRow : OpenClaim := { program := "ytcpbfnbfbladoaadoor", sum := "4f6534d222a9ff4b08f8be351ff66bfca8e6d5d3f5a3277d2e871fd5d83d448d", func := "torrent/torrentlaw1.DigestStreams", spec := "digestStreams", named := ["torrent/digest.firstState", "torrent/digest.roundConstants"], apart := false, laid := [("torrent/digest.roundConstants", laid_torrent_digest_roundConstants), ("torrent/digest.firstState", laid_torrent_digest_firstState)] }
def DigestStreamsSaid : Prop := digestStreamsRow.holds Tryd.pinned (OpenSpec.ofChange digestStreamsSpec)

/-- ITS FALSE NEIGHBOUR: 'it returns false'. Refute it at one input. -/
def digestStreamsWrong : ChangeSpec := { name := "digestStreams", fn := fun _ => fun
  | [d] => { results := [.lit (.bool false)], args := [d] }
  | _ => none }
def DigestStreamsWrongFalsely : Prop := digestStreamsRow.holds Tryd.pinned (OpenSpec.ofChange digestStreamsWrong)

/-- 'torrentlaw1.DigestCutting': WHATEVER THE INPUT: true; the input reads as it did. -/
def digestCuttingSpec : ChangeSpec := { name := "digestCutting", fn := fun _ => fun
  | [d] => { results := [.lit (.bool true)], args := [d] }
  | _ => none }
def digestCuttingRow : OpenClaim := { program := "ytcpbfnbfbladoaadoor", sum := "4f6534d222a9ff4b08f8be351ff66bfca8e6d5d3f5a3277d2e871fd5d83d448d", func := "torrent/torrentlaw1.DigestCutting", spec := "digestCutting", named := ["torrent/digest.firstState", "torrent/digest.roundConstants"], apart := false, laid := [("torrent/digest.roundConstants", laid_torrent_digest_roundConstants), ("torrent/digest.firstState", laid_torrent_digest_firstState)] }
def DigestCuttingSaid : Prop := digestCuttingRow.holds Tryd.pinned (OpenSpec.ofChange digestCuttingSpec)

/-- ITS FALSE NEIGHBOUR: 'it returns false'. Refute it at one input. -/
def digestCuttingWrong : ChangeSpec := { name := "digestCutting", fn := fun _ => fun
  | [d] => { results := [.lit (.bool false)], args := [d] }
  | _ => none }
def DigestCuttingWrongFalsely : Prop := digestCuttingRow.holds Tryd.pinned (OpenSpec.ofChange digestCuttingWrong)

/-- 'torrentlaw1.DigestKept': WHATEVER THE INPUT: true; the input reads as it did. -/
def digestKeptSpec : ChangeSpec := { name := "digestKept", fn := fun _ => fun
  | [d1, d2] => { results := [.lit (.bool true)], args := [d1, d2] }
  | _ => none }
def digestKeptRow : OpenClaim := { program := "ytcpbfnbfbladoaadoor", sum := "4f6534d222a9ff4b08f8be351ff66bfca8e6d5d3f5a3277d2e871fd5d83d448d", func := "torrent/torrentlaw1.DigestKept", spec := "digestKept", named := ["torrent/digest.firstState", "torrent/digest.roundConstants"], apart := false, laid := [("torrent/digest.roundConstants", laid_torrent_digest_roundConstants), ("torrent/digest.firstState", laid_torrent_digest_firstState)] }
def DigestKeptSaid : Prop := digestKeptRow.holds Tryd.pinned (OpenSpec.ofChange digestKeptSpec)

/-- ITS FALSE NEIGHBOUR: 'it returns false'. Refute it at one input. -/
def digestKeptWrong : ChangeSpec := { name := "digestKept", fn := fun _ => fun
  | [d1, d2] => { results := [.lit (.bool false)], args := [d1, d2] }
  | _ => none }
def DigestKeptWrongFalsely : Prop := digestKeptRow.holds Tryd.pinned (OpenSpec.ofChange digestKeptWrong)

/- THE SECOND FORM. 'bulk': how many values and letters a reading holds, each counted each time it is reached (what is shared counts as often as it is met; a slice's spare places count too). A statement '..UptoSaid' is the law's where the arguments, and the package variables that the reading takes, are together of bulk at most 1048576: NARROWER than '..Said'. Prove '..Said' where nothing that the law and all that it calls make is longer than what came in: it says more and counts as full. Else prove '..UptoSaid'. A law counts once. -/
mutual
def uptoBulk {H : Type} : DataW H → Nat
  | .lit (.string bytes) => bytes.length + 1
  | .lit _ => 1
  | .nil => 1
  | .ptr d => uptoBulk d + 1
  | .slice elems spare => uptoBulkAll elems + uptoBulkAll spare + 1
  | .agg parts => uptoBulkAll parts + 1
  | .iface _ d => uptoBulk d + 1
  | .map entries => uptoBulkEntries entries + 1
  | .held _ => 1
def uptoBulkAll {H : Type} : List (DataW H) → Nat
  | [] => 0
  | d :: r => uptoBulk d + uptoBulkAll r
def uptoBulkEntries {H : Type} : List (Lit × DataW H) → Nat
  | [] => 0
  | x :: r => uptoBulkEntry x + uptoBulkEntries r
def uptoBulkEntry {H : Type} : Lit × DataW H → Nat
  | (.string bytes, d) => bytes.length + uptoBulk d + 1
  | (_, d) => uptoBulk d + 1
 end
def uptoSmall : (H : Type) → List (DataW H) → Bool := fun _ ds => decide (uptoBulkAll ds ≤ 1048576)
def OpenSpec.upto (s : _root_.Go.ChangeSpec) : _root_.Go.OpenSpec := { _root_.Go.OpenSpec.ofChange s with cond := some uptoSmall }

/-- 'torrentlaw1.DigestTables', WHERE WHAT IT READS IS OF BULK AT MOST 1048576: true; the input reads as it did. -/
def digestTablesUptoRow : OpenClaim := { program := "ytcpbfnbfbladoaadoor", sum := "4f6534d222a9ff4b08f8be351ff66bfca8e6d5d3f5a3277d2e871fd5d83d448d", func := "torrent/torrentlaw1.DigestTables", spec := "digestTables", named := ["torrent/digest.roundConstants", "torrent/digest.firstState"], apart := false, laid := [("torrent/digest.roundConstants", laid_torrent_digest_roundConstants), ("torrent/digest.firstState", laid_torrent_digest_firstState)], narrowed := true }
def DigestTablesUptoSaid : Prop := digestTablesUptoRow.holds Tryd.pinned (OpenSpec.upto digestTablesSpec)

/-- 'torrentlaw1.DigestCompresses', WHERE WHAT IT READS IS OF BULK AT MOST 1048576: true; the input reads as it did. -/
def digestCompressesUptoRow : OpenClaim := { program := "ytcpbfnbfbladoaadoor", sum := "4f6534d222a9ff4b08f8be351ff66bfca8e6d5d3f5a3277d2e871fd5d83d448d", func := "torrent/torrentlaw1.DigestCompresses", spec := "digestCompresses", named := ["torrent/digest.roundConstants"], apart := false, laid := [("torrent/digest.roundConstants", laid_torrent_digest_roundConstants)], narrowed := true }
def DigestCompressesUptoSaid : Prop := digestCompressesUptoRow.holds Tryd.pinned (OpenSpec.upto digestCompressesSpec)

/-- 'torrentlaw1.DigestFolds', WHERE WHAT IT READS IS OF BULK AT MOST 1048576: true; the input reads as it did. -/
def digestFoldsUptoRow : OpenClaim := { program := "ytcpbfnbfbladoaadoor", sum := "4f6534d222a9ff4b08f8be351ff66bfca8e6d5d3f5a3277d2e871fd5d83d448d", func := "torrent/torrentlaw1.DigestFolds", spec := "digestFolds", named := ["torrent/digest.roundConstants", "torrent/digest.firstState"], apart := false, laid := [("torrent/digest.roundConstants", laid_torrent_digest_roundConstants), ("torrent/digest.firstState", laid_torrent_digest_firstState)], narrowed := true }
def DigestFoldsUptoSaid : Prop := digestFoldsUptoRow.holds Tryd.pinned (OpenSpec.upto digestFoldsSpec)

/-- 'torrentlaw1.DigestCuts', WHERE WHAT IT READS IS OF BULK AT MOST 1048576: true; the input reads as it did. -/
def digestCutsUptoRow : OpenClaim := { program := "ytcpbfnbfbladoaadoor", sum := "4f6534d222a9ff4b08f8be351ff66bfca8e6d5d3f5a3277d2e871fd5d83d448d", func := "torrent/torrentlaw1.DigestCuts", spec := "digestCuts", named := ["torrent/digest.firstState", "torrent/digest.roundConstants"], apart := false, laid := [("torrent/digest.roundConstants", laid_torrent_digest_roundConstants), ("torrent/digest.firstState", laid_torrent_digest_firstState)], narrowed := true }
def DigestCutsUptoSaid : Prop := digestCutsUptoRow.holds Tryd.pinned (OpenSpec.upto digestCutsSpec)

/-- 'torrentlaw1.DigestResumes', WHERE WHAT IT READS IS OF BULK AT MOST 1048576: true; the input reads as it did. -/
def digestResumesUptoRow : OpenClaim := { program := "ytcpbfnbfbladoaadoor", sum := "4f6534d222a9ff4b08f8be351ff66bfca8e6d5d3f5a3277d2e871fd5d83d448d", func := "torrent/torrentlaw1.DigestResumes", spec := "digestResumes", named := ["torrent/digest.firstState", "torrent/digest.roundConstants"], apart := false, laid := [("torrent/digest.roundConstants", laid_torrent_digest_roundConstants), ("torrent/digest.firstState", laid_torrent_digest_firstState)], narrowed := true }
def DigestResumesUptoSaid : Prop := digestResumesUptoRow.holds Tryd.pinned (OpenSpec.upto digestResumesSpec)

/-- 'torrentlaw1.DigestClashes', WHERE WHAT IT READS IS OF BULK AT MOST 1048576: true; the input reads as it did. -/
def digestClashesUptoRow : OpenClaim := { program := "ytcpbfnbfbladoaadoor", sum := "4f6534d222a9ff4b08f8be351ff66bfca8e6d5d3f5a3277d2e871fd5d83d448d", func := "torrent/torrentlaw1.DigestClashes", spec := "digestClashes", named := ["torrent/digest.firstState", "torrent/digest.roundConstants"], apart := false, laid := [("torrent/digest.roundConstants", laid_torrent_digest_roundConstants), ("torrent/digest.firstState", laid_torrent_digest_firstState)], narrowed := true }
def DigestClashesUptoSaid : Prop := digestClashesUptoRow.holds Tryd.pinned (OpenSpec.upto digestClashesSpec)

/-- 'torrentlaw1.DigestStreams', WHERE WHAT IT READS IS OF BULK AT MOST 1048576: true; the input reads as it did. -/
def digestStreamsUptoRow : OpenClaim := { program := "ytcpbfnbfbladoaadoor", sum := "4f6534d222a9ff4b08f8be351ff66bfca8e6d5d3f5a3277d2e871fd5d83d448d", func := "torrent/torrentlaw1.DigestStreams", spec := "digestStreams", named := ["torrent/digest.firstState", "torrent/digest.roundConstants"], apart := false, laid := [("torrent/digest.roundConstants", laid_torrent_digest_roundConstants), ("torrent/digest.firstState", laid_torrent_digest_firstState)], narrowed := true }
def DigestStreamsUptoSaid : Prop := digestStreamsUptoRow.holds Tryd.pinned (OpenSpec.upto digestStreamsSpec)

/-- 'torrentlaw1.DigestCutting', WHERE WHAT IT READS IS OF BULK AT MOST 1048576: true; the input reads as it did. -/
def digestCuttingUptoRow : OpenClaim := { program := "ytcpbfnbfbladoaadoor", sum := "4f6534d222a9ff4b08f8be351ff66bfca8e6d5d3f5a3277d2e871fd5d83d448d", func := "torrent/torrentlaw1.DigestCutting", spec := "digestCutting", named := ["torrent/digest.firstState", "torrent/digest.roundConstants"], apart := false, laid := [("torrent/digest.roundConstants", laid_torrent_digest_roundConstants), ("torrent/digest.firstState", laid_torrent_digest_firstState)], narrowed := true }
def DigestCuttingUptoSaid : Prop := digestCuttingUptoRow.holds Tryd.pinned (OpenSpec.upto digestCuttingSpec)

/-- 'torrentlaw1.DigestKept', WHERE WHAT IT READS IS OF BULK AT MOST 1048576: true; the input reads as it did. -/
def digestKeptUptoRow : OpenClaim := { program := "ytcpbfnbfbladoaadoor", sum := "4f6534d222a9ff4b08f8be351ff66bfca8e6d5d3f5a3277d2e871fd5d83d448d", func := "torrent/torrentlaw1.DigestKept", spec := "digestKept", named := ["torrent/digest.firstState", "torrent/digest.roundConstants"], apart := false, laid := [("torrent/digest.roundConstants", laid_torrent_digest_roundConstants), ("torrent/digest.firstState", laid_torrent_digest_firstState)], narrowed := true }
def DigestKeptUptoSaid : Prop := digestKeptUptoRow.holds Tryd.pinned (OpenSpec.upto digestKeptSpec)

end Rows
end Go.Proofs.YtcpbfnbfbladoaaDoor

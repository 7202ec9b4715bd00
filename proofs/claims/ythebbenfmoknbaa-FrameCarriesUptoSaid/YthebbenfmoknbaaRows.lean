/-
  No cell of these rows narrows 'for every input' (looked for: loops, veiled, ifaces, maps, wideKeys, modest, calm, conditions, laid).
  DERIVED. THE GIVEN ROWS OF THIS SEAT. 9 by the template 'for every input the law returns true; each argument reads behind the call as it read before'; 0 by the template 'total and deterministic' (their statements: YthebbenfmoknbaaTotals.lean).
  GIVEN WITH THE SEED: the statements are not yours to turn. If you find one false, say at which input.
  Laid BY PROGRAM, IN A SANDBOX (cutbox-rows.mjs): the forced cells as the released guide's own fill.sh prints them over the translation 6830bd0d4812b5ef… (all of the seat's roots in one cut). By AI agents, Wed Nov 11 2026. No macro, syntax, notation, axiom, sorry.
-/
import Derived.Test.YthebbenfmoknbaaChecked
import GoSem.Claim
import GoSem.ClaimJoined
import GoSem.ClaimMapViews
import Derived.JoinedTies
import Derived.KernelRfl
namespace Go.Proofs.Ythebbenfmoknbaa
/- THE CELL 'sum', in the pinned program and in every row, IS THE sha256 OF THE DUMP (.gsa) THAT YthebbenfmoknbaaProg.lean LOADS. Nothing in Lean hashes anything: it is a label: what it is worth is what the hold of that sum in a sandbox is worth. -/
noncomputable def Try.pinned : Pinned := { name := "ythebbenfmoknbaa", sum := "6830bd0d4812b5ef131dadd8b2998d51125349735b131260e2c8b58980a01454", checked := Try.checked }
namespace Rows
def none {H : Type} : Left H := { results := [], args := [] }

/-- 'torrentlaw10.FrameGreets': WHATEVER THE INPUT: true; the input reads as it did. -/
def frameGreetsSpec : ChangeSpec := { name := "frameGreets", fn := fun _ => fun
  | [d] => { results := [.lit (.bool true)], args := [d] }
  | _ => none }
def frameGreetsRow : OpenClaim := { program := "ythebbenfmoknbaa", sum := "6830bd0d4812b5ef131dadd8b2998d51125349735b131260e2c8b58980a01454", func := "torrent/torrentlaw10.FrameGreets", spec := "frameGreets", apart := false }
def FrameGreetsSaid : Prop := frameGreetsRow.holds Try.pinned (OpenSpec.ofChange frameGreetsSpec)

/-- ITS FALSE NEIGHBOUR: 'it returns false'. Refute it at one input. -/
def frameGreetsWrong : ChangeSpec := { name := "frameGreets", fn := fun _ => fun
  | [d] => { results := [.lit (.bool false)], args := [d] }
  | _ => none }
def FrameGreetsWrongFalsely : Prop := frameGreetsRow.holds Try.pinned (OpenSpec.ofChange frameGreetsWrong)

/-- 'torrentlaw10.FrameWraps': WHATEVER THE INPUT: true; the input reads as it did. -/
def frameWrapsSpec : ChangeSpec := { name := "frameWraps", fn := fun _ => fun
  | [d] => { results := [.lit (.bool true)], args := [d] }
  | _ => none }
def frameWrapsRow : OpenClaim := { program := "ythebbenfmoknbaa", sum := "6830bd0d4812b5ef131dadd8b2998d51125349735b131260e2c8b58980a01454", func := "torrent/torrentlaw10.FrameWraps", spec := "frameWraps", apart := false }
def FrameWrapsSaid : Prop := frameWrapsRow.holds Try.pinned (OpenSpec.ofChange frameWrapsSpec)

/-- ITS FALSE NEIGHBOUR: 'it returns false'. Refute it at one input. -/
def frameWrapsWrong : ChangeSpec := { name := "frameWraps", fn := fun _ => fun
  | [d] => { results := [.lit (.bool false)], args := [d] }
  | _ => none }
def FrameWrapsWrongFalsely : Prop := frameWrapsRow.holds Try.pinned (OpenSpec.ofChange frameWrapsWrong)

/-- 'torrentlaw10.FrameMeets': WHATEVER THE INPUT: true; the input reads as it did. -/
def frameMeetsSpec : ChangeSpec := { name := "frameMeets", fn := fun _ => fun
  | [d] => { results := [.lit (.bool true)], args := [d] }
  | _ => none }
def frameMeetsRow : OpenClaim := { program := "ythebbenfmoknbaa", sum := "6830bd0d4812b5ef131dadd8b2998d51125349735b131260e2c8b58980a01454", func := "torrent/torrentlaw10.FrameMeets", spec := "frameMeets", apart := false }
def FrameMeetsSaid : Prop := frameMeetsRow.holds Try.pinned (OpenSpec.ofChange frameMeetsSpec)

/-- ITS FALSE NEIGHBOUR: 'it returns false'. Refute it at one input. -/
def frameMeetsWrong : ChangeSpec := { name := "frameMeets", fn := fun _ => fun
  | [d] => { results := [.lit (.bool false)], args := [d] }
  | _ => none }
def FrameMeetsWrongFalsely : Prop := frameMeetsRow.holds Try.pinned (OpenSpec.ofChange frameMeetsWrong)

/-- 'torrentlaw10.FrameSplits': WHATEVER THE INPUT: true; the input reads as it did. -/
def frameSplitsSpec : ChangeSpec := { name := "frameSplits", fn := fun _ => fun
  | [d] => { results := [.lit (.bool true)], args := [d] }
  | _ => none }
def frameSplitsRow : OpenClaim := { program := "ythebbenfmoknbaa", sum := "6830bd0d4812b5ef131dadd8b2998d51125349735b131260e2c8b58980a01454", func := "torrent/torrentlaw10.FrameSplits", spec := "frameSplits", apart := false }
def FrameSplitsSaid : Prop := frameSplitsRow.holds Try.pinned (OpenSpec.ofChange frameSplitsSpec)

/-- ITS FALSE NEIGHBOUR: 'it returns false'. Refute it at one input. -/
def frameSplitsWrong : ChangeSpec := { name := "frameSplits", fn := fun _ => fun
  | [d] => { results := [.lit (.bool false)], args := [d] }
  | _ => none }
def FrameSplitsWrongFalsely : Prop := frameSplitsRow.holds Try.pinned (OpenSpec.ofChange frameSplitsWrong)

/-- 'torrentlaw10.FrameReads': WHATEVER THE INPUT: true; the input reads as it did. -/
def frameReadsSpec : ChangeSpec := { name := "frameReads", fn := fun _ => fun
  | [d1, d2, d3] => { results := [.lit (.bool true)], args := [d1, d2, d3] }
  | _ => none }
def frameReadsRow : OpenClaim := { program := "ythebbenfmoknbaa", sum := "6830bd0d4812b5ef131dadd8b2998d51125349735b131260e2c8b58980a01454", func := "torrent/torrentlaw10.FrameReads", spec := "frameReads", apart := false }
def FrameReadsSaid : Prop := frameReadsRow.holds Try.pinned (OpenSpec.ofChange frameReadsSpec)

/-- ITS FALSE NEIGHBOUR: 'it returns false'. Refute it at one input. -/
def frameReadsWrong : ChangeSpec := { name := "frameReads", fn := fun _ => fun
  | [d1, d2, d3] => { results := [.lit (.bool false)], args := [d1, d2, d3] }
  | _ => none }
def FrameReadsWrongFalsely : Prop := frameReadsRow.holds Try.pinned (OpenSpec.ofChange frameReadsWrong)

/-- 'torrentlaw10.FrameCarries': WHATEVER THE INPUT: true; the input reads as it did. -/
def frameCarriesSpec : ChangeSpec := { name := "frameCarries", fn := fun _ => fun
  | [d1, d2, d3] => { results := [.lit (.bool true)], args := [d1, d2, d3] }
  | _ => none }
def frameCarriesRow : OpenClaim := { program := "ythebbenfmoknbaa", sum := "6830bd0d4812b5ef131dadd8b2998d51125349735b131260e2c8b58980a01454", func := "torrent/torrentlaw10.FrameCarries", spec := "frameCarries", apart := false }
def FrameCarriesSaid : Prop := frameCarriesRow.holds Try.pinned (OpenSpec.ofChange frameCarriesSpec)

/-- ITS FALSE NEIGHBOUR: 'it returns false'. Refute it at one input. -/
def frameCarriesWrong : ChangeSpec := { name := "frameCarries", fn := fun _ => fun
  | [d1, d2, d3] => { results := [.lit (.bool false)], args := [d1, d2, d3] }
  | _ => none }
def FrameCarriesWrongFalsely : Prop := frameCarriesRow.holds Try.pinned (OpenSpec.ofChange frameCarriesWrong)

/-- 'torrentlaw10.FrameCutting': WHATEVER THE INPUT: true; the input reads as it did. -/
def frameCuttingSpec : ChangeSpec := { name := "frameCutting", fn := fun _ => fun
  | [d1, d2, d3] => { results := [.lit (.bool true)], args := [d1, d2, d3] }
  | _ => none }
def frameCuttingRow : OpenClaim := { program := "ythebbenfmoknbaa", sum := "6830bd0d4812b5ef131dadd8b2998d51125349735b131260e2c8b58980a01454", func := "torrent/torrentlaw10.FrameCutting", spec := "frameCutting", apart := false }
def FrameCuttingSaid : Prop := frameCuttingRow.holds Try.pinned (OpenSpec.ofChange frameCuttingSpec)

/-- ITS FALSE NEIGHBOUR: 'it returns false'. Refute it at one input. -/
def frameCuttingWrong : ChangeSpec := { name := "frameCutting", fn := fun _ => fun
  | [d1, d2, d3] => { results := [.lit (.bool false)], args := [d1, d2, d3] }
  | _ => none }
def FrameCuttingWrongFalsely : Prop := frameCuttingRow.holds Try.pinned (OpenSpec.ofChange frameCuttingWrong)

/-- 'torrentlaw10.FrameBreaks': WHATEVER THE INPUT: true; the input reads as it did. -/
def frameBreaksSpec : ChangeSpec := { name := "frameBreaks", fn := fun _ => fun
  | [d1, d2, d3, d4] => { results := [.lit (.bool true)], args := [d1, d2, d3, d4] }
  | _ => none }
def frameBreaksRow : OpenClaim := { program := "ythebbenfmoknbaa", sum := "6830bd0d4812b5ef131dadd8b2998d51125349735b131260e2c8b58980a01454", func := "torrent/torrentlaw10.FrameBreaks", spec := "frameBreaks", apart := false }
def FrameBreaksSaid : Prop := frameBreaksRow.holds Try.pinned (OpenSpec.ofChange frameBreaksSpec)

/-- ITS FALSE NEIGHBOUR: 'it returns false'. Refute it at one input. -/
def frameBreaksWrong : ChangeSpec := { name := "frameBreaks", fn := fun _ => fun
  | [d1, d2, d3, d4] => { results := [.lit (.bool false)], args := [d1, d2, d3, d4] }
  | _ => none }
def FrameBreaksWrongFalsely : Prop := frameBreaksRow.holds Try.pinned (OpenSpec.ofChange frameBreaksWrong)

/-- 'torrentlaw10.FrameKept': WHATEVER THE INPUT: true; the input reads as it did. -/
def frameKeptSpec : ChangeSpec := { name := "frameKept", fn := fun _ => fun
  | [d1, d2, d3] => { results := [.lit (.bool true)], args := [d1, d2, d3] }
  | _ => none }
def frameKeptRow : OpenClaim := { program := "ythebbenfmoknbaa", sum := "6830bd0d4812b5ef131dadd8b2998d51125349735b131260e2c8b58980a01454", func := "torrent/torrentlaw10.FrameKept", spec := "frameKept", apart := false }
def FrameKeptSaid : Prop := frameKeptRow.holds Try.pinned (OpenSpec.ofChange frameKeptSpec)

/-- ITS FALSE NEIGHBOUR: 'it returns false'. Refute it at one input. -/
def frameKeptWrong : ChangeSpec := { name := "frameKept", fn := fun _ => fun
  | [d1, d2, d3] => { results := [.lit (.bool false)], args := [d1, d2, d3] }
  | _ => none }
def FrameKeptWrongFalsely : Prop := frameKeptRow.holds Try.pinned (OpenSpec.ofChange frameKeptWrong)

/- THE SECOND FORM. 'bulk': how many values and letters a reading holds, each counted each time it is reached (what is shared counts as often as it is met; a slice's spare places count too). A statement '..UptoSaid' is the law's where the arguments, and the package variables that the reading takes, are together of bulk at most 1048576: NARROWER than '..Said'. Prove '..Said' where nothing that the law and all that it calls make is longer than what came in: it says more and counts as full. Else prove '..UptoSaid'. A law counts once. -/
mutual
def uptoBulk {H : Type} : DataW H → Nat
  | .lit (.string bytes) => bytes.length + 1
  | .lit _ => 1
  | .nil => 1
  | .ptr d => uptoBulk d + 1
  | .slice elems spare => uptoBulkAll elems + uptoBulkAll spare + 1
  | .agg parts => uptoBulkAll parts + 1
  | .iface _ d => uptoBulk d + 1
  | .map entries => uptoBulkEntries entries + 1
  | .held _ => 1
def uptoBulkAll {H : Type} : List (DataW H) → Nat
  | [] => 0
  | d :: r => uptoBulk d + uptoBulkAll r
def uptoBulkEntries {H : Type} : List (Lit × DataW H) → Nat
  | [] => 0
  | x :: r => uptoBulkEntry x + uptoBulkEntries r
def uptoBulkEntry {H : Type} : Lit × DataW H → Nat
  | (.string bytes, d) => bytes.length + uptoBulk d + 1
  | (_, d) => uptoBulk d + 1
 end
def uptoSmall : (H : Type) → List (DataW H) → Bool := fun _ ds => decide (uptoBulkAll ds ≤ 1048576)
def OpenSpec.upto (s : _root_.Go.ChangeSpec) : _root_.Go.OpenSpec := { _root_.Go.OpenSpec.ofChange s with cond := some uptoSmall }

/-- 'torrentlaw10.FrameGreets', WHERE WHAT IT READS IS OF BULK AT MOST 1048576: true; the input reads as it did. -/
def frameGreetsUptoRow : OpenClaim := { program := "ythebbenfmoknbaa", sum := "6830bd0d4812b5ef131dadd8b2998d51125349735b131260e2c8b58980a01454", func := "torrent/torrentlaw10.FrameGreets", spec := "frameGreets", apart := false, narrowed := true }
def FrameGreetsUptoSaid : Prop := frameGreetsUptoRow.holds Try.pinned (OpenSpec.upto frameGreetsSpec)

/-- 'torrentlaw10.FrameWraps', WHERE WHAT IT READS IS OF BULK AT MOST 1048576: true; the input reads as it did. -/
def frameWrapsUptoRow : OpenClaim := { program := "ythebbenfmoknbaa", sum := "6830bd0d4812b5ef131dadd8b2998d51125349735b131260e2c8b58980a01454", func := "torrent/torrentlaw10.FrameWraps", spec := "frameWraps", apart := false, narrowed := true }
def FrameWrapsUptoSaid : Prop := frameWrapsUptoRow.holds Try.pinned (OpenSpec.upto frameWrapsSpec)

/-- 'torrentlaw10.FrameMeets', WHERE WHAT IT READS IS OF BULK AT MOST 1048576: true; the input reads as it did. -/
def frameMeetsUptoRow : OpenClaim := { program := "ythebbenfmoknbaa", sum := "6830bd0d4812b5ef131dadd8b2998d51125349735b131260e2c8b58980a01454", func := "torrent/torrentlaw10.FrameMeets", spec := "frameMeets", apart := false, narrowed := true }
def FrameMeetsUptoSaid : Prop := frameMeetsUptoRow.holds Try.pinned (OpenSpec.upto frameMeetsSpec)

/-- 'torrentlaw10.FrameSplits', WHERE WHAT IT READS IS OF BULK AT MOST 1048576: true; the input reads as it did. -/
def frameSplitsUptoRow : OpenClaim := { program := "ythebbenfmoknbaa", sum := "6830bd0d4812b5ef131dadd8b2998d51125349735b131260e2c8b58980a01454", func := "torrent/torrentlaw10.FrameSplits", spec := "frameSplits", apart := false, narrowed := true }
def FrameSplitsUptoSaid : Prop := frameSplitsUptoRow.holds Try.pinned (OpenSpec.upto frameSplitsSpec)

/-- 'torrentlaw10.FrameReads', WHERE WHAT IT READS IS OF BULK AT MOST 1048576: true; the input reads as it did. -/
def frameReadsUptoRow : OpenClaim := { program := "ythebbenfmoknbaa", sum := "6830bd0d4812b5ef131dadd8b2998d51125349735b131260e2c8b58980a01454", func := "torrent/torrentlaw10.FrameReads", spec := "frameReads", apart := false, narrowed := true }
def FrameReadsUptoSaid : Prop := frameReadsUptoRow.holds Try.pinned (OpenSpec.upto frameReadsSpec)

/-- 'torrentlaw10.FrameCarries', WHERE WHAT IT READS IS OF BULK AT MOST 1048576: true; the input reads as it did. -/
def frameCarriesUptoRow : OpenClaim := { program := "ythebbenfmoknbaa", sum := "6830bd0d4812b5ef131dadd8b2998d51125349735b131260e2c8b58980a01454", func := "torrent/torrentlaw10.FrameCarries", spec := "frameCarries", apart := false, narrowed := true }
def FrameCarriesUptoSaid : Prop := frameCarriesUptoRow.holds Try.pinned (OpenSpec.upto frameCarriesSpec)

/-- 'torrentlaw10.FrameCutting', WHERE WHAT IT READS IS OF BULK AT MOST 1048576: true; the input reads as it did. -/
def frameCuttingUptoRow : OpenClaim := { program := "ythebbenfmoknbaa", sum := "6830bd0d4812b5ef131dadd8b2998d51125349735b131260e2c8b58980a01454", func := "torrent/torrentlaw10.FrameCutting", spec := "frameCutting", apart := false, narrowed := true }
def FrameCuttingUptoSaid : Prop := frameCuttingUptoRow.holds Try.pinned (OpenSpec.upto frameCuttingSpec)

/-- 'torrentlaw10.FrameBreaks', WHERE WHAT IT READS IS OF BULK AT MOST 1048576: true; the input reads as it did. -/
def frameBreaksUptoRow : OpenClaim := { program := "ythebbenfmoknbaa", sum := "6830bd0d4812b5ef131dadd8b2998d51125349735b131260e2c8b58980a01454", func := "torrent/torrentlaw10.FrameBreaks", spec := "frameBreaks", apart := false, narrowed := true }
def FrameBreaksUptoSaid : Prop := frameBreaksUptoRow.holds Try.pinned (OpenSpec.upto frameBreaksSpec)

/-- 'torrentlaw10.FrameKept', WHERE WHAT IT READS IS OF BULK AT MOST 1048576: true; the input reads as it did. -/
def frameKeptUptoRow : OpenClaim := { program := "ythebbenfmoknbaa", sum := "6830bd0d4812b5ef131dadd8b2998d51125349735b131260e2c8b58980a01454", func := "torrent/torrentlaw10.FrameKept", spec := "frameKept", apart := false, narrowed := true }
def FrameKeptUptoSaid : Prop := frameKeptUptoRow.holds Try.pinned (OpenSpec.upto frameKeptSpec)

end Rows
end Go.Proofs.Ythebbenfmoknbaa

/-
  No cell of these rows narrows 'for every input' (looked for: loops, veiled, ifaces, maps, wideKeys, modest, calm, conditions, laid).
  DERIVED. THE GIVEN ROWS OF THIS SEAT. 5 by the template 'for every input the law returns true; each argument reads behind the call as it read before'; 0 by the template 'total and deterministic' (their statements: YtcpbfnbfbladoaaTotals.lean).
  GIVEN WITH THE SEED: the statements are not yours to turn. If you find one false, say at which input.
  Laid BY PROGRAM, IN A SANDBOX (cutbox-rows.mjs): the forced cells as the released guide's own fill.sh prints them over the translation b223d64caf40fa1a… (all of the seat's roots in one cut). By AI agents, Wed Nov 11 2026. No macro, syntax, notation, axiom, sorry.
-/
import Derived.Test.YtcpbfnbfbladoaaChecked
import GoSem.Claim
import GoSem.ClaimJoined
import GoSem.ClaimMapViews
import Derived.JoinedTies
import Derived.KernelRfl
namespace Go.Proofs.Ytcpbfnbfbladoaa
/- THE CELL 'sum', in the pinned program and in every row, IS THE sha256 OF THE DUMP (.gsa) THAT YtcpbfnbfbladoaaProg.lean LOADS. Nothing in Lean hashes anything: it is a label: what it is worth is what the hold of that sum in a sandbox is worth. -/
noncomputable def Try.pinned : Pinned := { name := "ytcpbfnbfbladoaa", sum := "b223d64caf40fa1a4493dfbad7a6c8f15c63ed5ea5ff38a074cde235f19d3230", checked := Try.checked }
namespace Rows
def none {H : Type} : Left H := { results := [], args := [] }

/-- 'torrentlaw1.DigestScales': WHATEVER THE INPUT: true; the input reads as it did. -/
def digestScalesSpec : ChangeSpec := { name := "digestScales", fn := fun _ => fun
  | [d] => { results := [.lit (.bool true)], args := [d] }
  | _ => none }
def digestScalesRow : OpenClaim := { program := "ytcpbfnbfbladoaa", sum := "b223d64caf40fa1a4493dfbad7a6c8f15c63ed5ea5ff38a074cde235f19d3230", func := "torrent/torrentlaw1.DigestScales", spec := "digestScales", apart := false }
def DigestScalesSaid : Prop := digestScalesRow.holds Try.pinned (OpenSpec.ofChange digestScalesSpec)

/-- ITS FALSE NEIGHBOUR: 'it returns false'. Refute it at one input. -/
def digestScalesWrong : ChangeSpec := { name := "digestScales", fn := fun _ => fun
  | [d] => { results := [.lit (.bool false)], args := [d] }
  | _ => none }
def DigestScalesWrongFalsely : Prop := digestScalesRow.holds Try.pinned (OpenSpec.ofChange digestScalesWrong)

/-- 'torrentlaw1.DigestPads': WHATEVER THE INPUT: true; the input reads as it did. -/
def digestPadsSpec : ChangeSpec := { name := "digestPads", fn := fun _ => fun
  | [d] => { results := [.lit (.bool true)], args := [d] }
  | _ => none }
def digestPadsRow : OpenClaim := { program := "ytcpbfnbfbladoaa", sum := "b223d64caf40fa1a4493dfbad7a6c8f15c63ed5ea5ff38a074cde235f19d3230", func := "torrent/torrentlaw1.DigestPads", spec := "digestPads", apart := false }
def DigestPadsSaid : Prop := digestPadsRow.holds Try.pinned (OpenSpec.ofChange digestPadsSpec)

/-- ITS FALSE NEIGHBOUR: 'it returns false'. Refute it at one input. -/
def digestPadsWrong : ChangeSpec := { name := "digestPads", fn := fun _ => fun
  | [d] => { results := [.lit (.bool false)], args := [d] }
  | _ => none }
def DigestPadsWrongFalsely : Prop := digestPadsRow.holds Try.pinned (OpenSpec.ofChange digestPadsWrong)

/-- 'torrentlaw1.DigestExpands': WHATEVER THE INPUT: true; the input reads as it did. -/
def digestExpandsSpec : ChangeSpec := { name := "digestExpands", fn := fun _ => fun
  | [d] => { results := [.lit (.bool true)], args := [d] }
  | _ => none }
def digestExpandsRow : OpenClaim := { program := "ytcpbfnbfbladoaa", sum := "b223d64caf40fa1a4493dfbad7a6c8f15c63ed5ea5ff38a074cde235f19d3230", func := "torrent/torrentlaw1.DigestExpands", spec := "digestExpands", apart := false }
def DigestExpandsSaid : Prop := digestExpandsRow.holds Try.pinned (OpenSpec.ofChange digestExpandsSpec)

/-- ITS FALSE NEIGHBOUR: 'it returns false'. Refute it at one input. -/
def digestExpandsWrong : ChangeSpec := { name := "digestExpands", fn := fun _ => fun
  | [d] => { results := [.lit (.bool false)], args := [d] }
  | _ => none }
def DigestExpandsWrongFalsely : Prop := digestExpandsRow.holds Try.pinned (OpenSpec.ofChange digestExpandsWrong)

/-- 'torrentlaw1.DigestPrimes': WHATEVER THE INPUT: true; the input reads as it did. -/
def digestPrimesSpec : ChangeSpec := { name := "digestPrimes", fn := fun _ => fun
  | [d] => { results := [.lit (.bool true)], args := [d] }
  | _ => none }
def digestPrimesRow : OpenClaim := { program := "ytcpbfnbfbladoaa", sum := "b223d64caf40fa1a4493dfbad7a6c8f15c63ed5ea5ff38a074cde235f19d3230", func := "torrent/torrentlaw1.DigestPrimes", spec := "digestPrimes", apart := false }
def DigestPrimesSaid : Prop := digestPrimesRow.holds Try.pinned (OpenSpec.ofChange digestPrimesSpec)

/-- ITS FALSE NEIGHBOUR: 'it returns false'. Refute it at one input. -/
def digestPrimesWrong : ChangeSpec := { name := "digestPrimes", fn := fun _ => fun
  | [d] => { results := [.lit (.bool false)], args := [d] }
  | _ => none }
def DigestPrimesWrongFalsely : Prop := digestPrimesRow.holds Try.pinned (OpenSpec.ofChange digestPrimesWrong)

/-- 'torrentlaw1.DigestHexes': WHATEVER THE INPUT: true; the input reads as it did. -/
def digestHexesSpec : ChangeSpec := { name := "digestHexes", fn := fun _ => fun
  | [d1, d2] => { results := [.lit (.bool true)], args := [d1, d2] }
  | _ => none }
def digestHexesRow : OpenClaim := { program := "ytcpbfnbfbladoaa", sum := "b223d64caf40fa1a4493dfbad7a6c8f15c63ed5ea5ff38a074cde235f19d3230", func := "torrent/torrentlaw1.DigestHexes", spec := "digestHexes", apart := false }
def DigestHexesSaid : Prop := digestHexesRow.holds Try.pinned (OpenSpec.ofChange digestHexesSpec)

/-- ITS FALSE NEIGHBOUR: 'it returns false'. Refute it at one input. -/
def digestHexesWrong : ChangeSpec := { name := "digestHexes", fn := fun _ => fun
  | [d1, d2] => { results := [.lit (.bool false)], args := [d1, d2] }
  | _ => none }
def DigestHexesWrongFalsely : Prop := digestHexesRow.holds Try.pinned (OpenSpec.ofChange digestHexesWrong)

/- THE SECOND FORM. 'bulk': how many values and letters a reading holds, each counted each time it is reached (what is shared counts as often as it is met; a slice's spare places count too). A statement '..UptoSaid' is the law's where the arguments, and the package variables that the reading takes, are together of bulk at most 1048576: NARROWER than '..Said'. Prove '..Said' where nothing that the law and all that it calls make is longer than what came in: it says more and counts as full. Else prove '..UptoSaid'. A law counts once. -/
mutual
def uptoBulk {H : Type} : DataW H → Nat
  | .lit (.string bytes) => bytes.length + 1
  | .lit _ => 1
  | .nil => 1
  | .ptr d => uptoBulk d + 1
  | .slice elems spare => uptoBulkAll elems + uptoBulkAll spare + 1
  | .agg parts => uptoBulkAll parts + 1
  | .iface _ d => uptoBulk d + 1
  | .map entries => uptoBulkEntries entries + 1
  | .held _ => 1
def uptoBulkAll {H : Type} : List (DataW H) → Nat
  | [] => 0
  | d :: r => uptoBulk d + uptoBulkAll r
def uptoBulkEntries {H : Type} : List (Lit × DataW H) → Nat
  | [] => 0
  | x :: r => uptoBulkEntry x + uptoBulkEntries r
def uptoBulkEntry {H : Type} : Lit × DataW H → Nat
  | (.string bytes, d) => bytes.length + uptoBulk d + 1
  | (_, d) => uptoBulk d + 1
 end
def uptoSmall : (H : Type) → List (DataW H) → Bool := fun _ ds => decide (uptoBulkAll ds ≤ 1048576)
def OpenSpec.upto (s : _root_.Go.ChangeSpec) : _root_.Go.OpenSpec := { _root_.Go.OpenSpec.ofChange s with cond := some uptoSmall }

/-- 'torrentlaw1.DigestScales', WHERE WHAT IT READS IS OF BULK AT MOST 1048576: true; the input reads as it did. -/
def digestScalesUptoRow : OpenClaim := { program := "ytcpbfnbfbladoaa", sum := "b223d64caf40fa1a4493dfbad7a6c8f15c63ed5ea5ff38a074cde235f19d3230", func := "torrent/torrentlaw1.DigestScales", spec := "digestScales", apart := false, narrowed := true }
def DigestScalesUptoSaid : Prop := digestScalesUptoRow.holds Try.pinned (OpenSpec.upto digestScalesSpec)

/-- 'torrentlaw1.DigestPads', WHERE WHAT IT READS IS OF BULK AT MOST 1048576: true; the input reads as it did. -/
def digestPadsUptoRow : OpenClaim := { program := "ytcpbfnbfbladoaa", sum := "b223d64caf40fa1a4493dfbad7a6c8f15c63ed5ea5ff38a074cde235f19d3230", func := "torrent/torrentlaw1.DigestPads", spec := "digestPads", apart := false, narrowed := true }
def DigestPadsUptoSaid : Prop := digestPadsUptoRow.holds Try.pinned (OpenSpec.upto digestPadsSpec)

/-- 'torrentlaw1.DigestExpands', WHERE WHAT IT READS IS OF BULK AT MOST 1048576: true; the input reads as it did. -/
def digestExpandsUptoRow : OpenClaim := { program := "ytcpbfnbfbladoaa", sum := "b223d64caf40fa1a4493dfbad7a6c8f15c63ed5ea5ff38a074cde235f19d3230", func := "torrent/torrentlaw1.DigestExpands", spec := "digestExpands", apart := false, narrowed := true }
def DigestExpandsUptoSaid : Prop := digestExpandsUptoRow.holds Try.pinned (OpenSpec.upto digestExpandsSpec)

/-- 'torrentlaw1.DigestPrimes', WHERE WHAT IT READS IS OF BULK AT MOST 1048576: true; the input reads as it did. -/
def digestPrimesUptoRow : OpenClaim := { program := "ytcpbfnbfbladoaa", sum := "b223d64caf40fa1a4493dfbad7a6c8f15c63ed5ea5ff38a074cde235f19d3230", func := "torrent/torrentlaw1.DigestPrimes", spec := "digestPrimes", apart := false, narrowed := true }
def DigestPrimesUptoSaid : Prop := digestPrimesUptoRow.holds Try.pinned (OpenSpec.upto digestPrimesSpec)

/-- 'torrentlaw1.DigestHexes', WHERE WHAT IT READS IS OF BULK AT MOST 1048576: true; the input reads as it did. -/
def digestHexesUptoRow : OpenClaim := { program := "ytcpbfnbfbladoaa", sum := "b223d64caf40fa1a4493dfbad7a6c8f15c63ed5ea5ff38a074cde235f19d3230", func := "torrent/torrentlaw1.DigestHexes", spec := "digestHexes", apart := false, narrowed := true }
def DigestHexesUptoSaid : Prop := digestHexesUptoRow.holds Try.pinned (OpenSpec.upto digestHexesSpec)

end Rows
end Go.Proofs.Ytcpbfnbfbladoaa

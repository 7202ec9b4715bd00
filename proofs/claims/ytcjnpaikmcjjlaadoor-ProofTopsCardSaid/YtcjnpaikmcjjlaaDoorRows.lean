/-
  NARROWER THAN 'FOR EVERY INPUT', by the rows' own cells (each row's printed sentence says how): ProofAmounts: laid · ProofTexts: laid · ProofTops: laid · ProofClimbs: laid · ProofCollides: laid · ProofProves: laid · ProofVerifies: laid · ProofBinds: laid · ProofBetrays: laid · ProofFetches: laid · ProofComplete: laid · ProofSound: laid · ProofKept: laid.
  DERIVED. THE GIVEN ROWS OF THIS SEAT. 13 by the template 'for every input the law returns true; each argument reads behind the call as it read before'; 0 by the template 'total and deterministic' (their statements: YtcjnpaikmcjjlaaDoorTotals.lean).
  GIVEN WITH THE SEED: the statements are not yours to turn. If you find one false, say at which input.
  Laid BY PROGRAM, IN A SANDBOX (cutbox-rows.mjs): the forced cells as the released guide's own fill.sh prints them over the translation 467295069cb46ad9… (all of the seat's roots in one cut). By AI agents, Wed Nov 11 2026. No macro, syntax, notation, axiom, sorry.
-/
import Derived.Test.YtcjnpaikmcjjlaaDoorChecked
import GoSem.Claim
import GoSem.ClaimJoined
import GoSem.ClaimMapViews
import Derived.JoinedTies
import Derived.KernelRfl
namespace Go.Proofs.YtcjnpaikmcjjlaaDoor
/- THE CELL 'sum', in the pinned program and in every row, IS THE sha256 OF THE DUMP (.gsa) THAT YtcjnpaikmcjjlaaDoorProg.lean LOADS. Nothing in Lean hashes anything: it is a label: what it is worth is what the hold of that sum in a sandbox is worth. -/
noncomputable def Tryd.pinned : Pinned := { name := "ytcjnpaikmcjjlaadoor", sum := "467295069cb46ad9b9f3eee71e08023d633271b22ebd4bb884b07626c617fa45", checked := Tryd.checked }
namespace Rows
def none {H : Type} : Left H := { results := [], args := [] }

/- WHAT THE LISTED PACKAGE-LEVEL VARIABLES READ AS WHEN THE CALL BEGINS. Each datum BY PROGRAM (the guide's laid-datum.mjs) off the statement by which the dump's own 'gosem.cut.vars' lays the variable. In a bare row this is a premise. The card (YtcjnpaikmcjjlaaDoorCards.lean) ties it to the program's text. -/
def laid_math_bits_deBruijn32tab {H : Type} : DataW H := .agg [.lit (.int .u8 0), .lit (.int .u8 1), .lit (.int .u8 28), .lit (.int .u8 2), .lit (.int .u8 29), .lit (.int .u8 14), .lit (.int .u8 24), .lit (.int .u8 3), .lit (.int .u8 30), .lit (.int .u8 22), .lit (.int .u8 20), .lit (.int .u8 15), .lit (.int .u8 25), .lit (.int .u8 17), .lit (.int .u8 4), .lit (.int .u8 8), .lit (.int .u8 31), .lit (.int .u8 27), .lit (.int .u8 13), .lit (.int .u8 23), .lit (.int .u8 21), .lit (.int .u8 19), .lit (.int .u8 16), .lit (.int .u8 7), .lit (.int .u8 26), .lit (.int .u8 12), .lit (.int .u8 18), .lit (.int .u8 6), .lit (.int .u8 11), .lit (.int .u8 5), .lit (.int .u8 10), .lit (.int .u8 9)]
def laid_math_bits_deBruijn64tab {H : Type} : DataW H := .agg [.lit (.int .u8 0), .lit (.int .u8 1), .lit (.int .u8 56), .lit (.int .u8 2), .lit (.int .u8 57), .lit (.int .u8 49), .lit (.int .u8 28), .lit (.int .u8 3), .lit (.int .u8 61), .lit (.int .u8 58), .lit (.int .u8 42), .lit (.int .u8 50), .lit (.int .u8 38), .lit (.int .u8 29), .lit (.int .u8 17), .lit (.int .u8 4), .lit (.int .u8 62), .lit (.int .u8 47), .lit (.int .u8 59), .lit (.int .u8 36), .lit (.int .u8 45), .lit (.int .u8 43), .lit (.int .u8 51), .lit (.int .u8 22), .lit (.int .u8 53), .lit (.int .u8 39), .lit (.int .u8 33), .lit (.int .u8 30), .lit (.int .u8 24), .lit (.int .u8 18), .lit (.int .u8 12), .lit (.int .u8 5), .lit (.int .u8 63), .lit (.int .u8 55), .lit (.int .u8 48), .lit (.int .u8 27), .lit (.int .u8 60), .lit (.int .u8 41), .lit (.int .u8 37), .lit (.int .u8 16), .lit (.int .u8 46), .lit (.int .u8 35), .lit (.int .u8 44), .lit (.int .u8 21), .lit (.int .u8 52), .lit (.int .u8 32), .lit (.int .u8 23), .lit (.int .u8 11), .lit (.int .u8 54), .lit (.int .u8 26), .lit (.int .u8 40), .lit (.int .u8 15), .lit (.int .u8 34), .lit (.int .u8 20), .lit (.int .u8 31), .lit (.int .u8 10), .lit (.int .u8 25), .lit (.int .u8 14), .lit (.int .u8 19), .lit (.int .u8 9), .lit (.int .u8 13), .lit (.int .u8 8), .lit (.int .u8 7), .lit (.int .u8 6)]
def laid_torrent_digest_roundConstants {H : Type} : DataW H := .agg [.lit (.int .u32 1116352408), .lit (.int .u32 1899447441), .lit (.int .u32 3049323471), .lit (.int .u32 3921009573), .lit (.int .u32 961987163), .lit (.int .u32 1508970993), .lit (.int .u32 2453635748), .lit (.int .u32 2870763221), .lit (.int .u32 3624381080), .lit (.int .u32 310598401), .lit (.int .u32 607225278), .lit (.int .u32 1426881987), .lit (.int .u32 1925078388), .lit (.int .u32 2162078206), .lit (.int .u32 2614888103), .lit (.int .u32 3248222580), .lit (.int .u32 3835390401), .lit (.int .u32 4022224774), .lit (.int .u32 264347078), .lit (.int .u32 604807628), .lit (.int .u32 770255983), .lit (.int .u32 1249150122), .lit (.int .u32 1555081692), .lit (.int .u32 1996064986), .lit (.int .u32 2554220882), .lit (.int .u32 2821834349), .lit (.int .u32 2952996808), .lit (.int .u32 3210313671), .lit (.int .u32 3336571891), .lit (.int .u32 3584528711), .lit (.int .u32 113926993), .lit (.int .u32 338241895), .lit (.int .u32 666307205), .lit (.int .u32 773529912), .lit (.int .u32 1294757372), .lit (.int .u32 1396182291), .lit (.int .u32 1695183700), .lit (.int .u32 1986661051), .lit (.int .u32 2177026350), .lit (.int .u32 2456956037), .lit (.int .u32 2730485921), .lit (.int .u32 2820302411), .lit (.int .u32 3259730800), .lit (.int .u32 3345764771), .lit (.int .u32 3516065817), .lit (.int .u32 3600352804), .lit (.int .u32 4094571909), .lit (.int .u32 275423344), .lit (.int .u32 430227734), .lit (.int .u32 506948616), .lit (.int .u32 659060556), .lit (.int .u32 883997877), .lit (.int .u32 958139571), .lit (.int .u32 1322822218), .lit (.int .u32 1537002063), .lit (.int .u32 1747873779), .lit (.int .u32 1955562222), .lit (.int .u32 2024104815), .lit (.int .u32 2227730452), .lit (.int .u32 2361852424), .lit (.int .u32 2428436474), .lit (.int .u32 2756734187), .lit (.int .u32 3204031479), .lit (.int .u32 3329325298)]
def laid_torrent_digest_firstState {H : Type} : DataW H := .agg [.lit (.int .u32 1779033703), .lit (.int .u32 3144134277), .lit (.int .u32 1013904242), .lit (.int .u32 2773480762), .lit (.int .u32 1359893119), .lit (.int .u32 2600822924), .lit (.int .u32 528734635), .lit (.int .u32 1541459225)]

/-- 'torrentlaw7.ProofAmounts': WHATEVER THE INPUT: true; the input reads as it did. -/
def proofAmountsSpec : ChangeSpec := { name := "proofAmounts", fn := fun _ => fun
  | [d] => { results := [.lit (.bool true)], args := [d] }
  | _ => none }
def proofAmountsRow : OpenClaim := { program := "ytcjnpaikmcjjlaadoor", sum := "467295069cb46ad9b9f3eee71e08023d633271b22ebd4bb884b07626c617fa45", func := "torrent/torrentlaw7.ProofAmounts", spec := "proofAmounts", named := ["math/bits.deBruijn32tab", "math/bits.deBruijn64tab"], apart := false, laid := [("math/bits.deBruijn32tab", laid_math_bits_deBruijn32tab), ("math/bits.deBruijn64tab", laid_math_bits_deBruijn64tab)] }
def ProofAmountsSaid : Prop := proofAmountsRow.holds Tryd.pinned (OpenSpec.ofChange proofAmountsSpec)

/-- ITS FALSE NEIGHBOUR: 'it returns false'. Refute it at one input. -/
def proofAmountsWrong : ChangeSpec := { name := "proofAmounts", fn := fun _ => fun
  | [d] => { results := [.lit (.bool false)], args := [d] }
  | _ => none }
def ProofAmountsWrongFalsely : Prop := proofAmountsRow.holds Tryd.pinned (OpenSpec.ofChange proofAmountsWrong)

/-- 'torrentlaw7.ProofTexts': WHATEVER THE INPUT: true; the input reads as it did. -/
def proofTextsSpec : ChangeSpec := { name := "proofTexts", fn := fun _ => fun
  | [d1, d2, d3, d4, d5, d6, d7] => { results := [.lit (.bool true)], args := [d1, d2, d3, d4, d5, d6, d7] }
  | _ => none }
def proofTextsRow : OpenClaim := { program := "ytcjnpaikmcjjlaadoor", sum := "467295069cb46ad9b9f3eee71e08023d633271b22ebd4bb884b07626c617fa45", func := "torrent/torrentlaw7.ProofTexts", spec := "proofTexts", unfollowed := true, recurses := true, named := ["torrent/digest.firstState", "torrent/digest.roundConstants", "math/bits.deBruijn32tab", "math/bits.deBruijn64tab"], apart := false, laid := [("math/bits.deBruijn32tab", laid_math_bits_deBruijn32tab), ("math/bits.deBruijn64tab", laid_math_bits_deBruijn64tab), ("torrent/digest.roundConstants", laid_torrent_digest_roundConstants), ("torrent/digest.firstState", laid_torrent_digest_firstState)] }
def ProofTextsSaid : Prop := proofTextsRow.holds Tryd.pinned (OpenSpec.ofChange proofTextsSpec)

/-- ITS FALSE NEIGHBOUR: 'it returns false'. Refute it at one input. -/
def proofTextsWrong : ChangeSpec := { name := "proofTexts", fn := fun _ => fun
  | [d1, d2, d3, d4, d5, d6, d7] => { results := [.lit (.bool false)], args := [d1, d2, d3, d4, d5, d6, d7] }
  | _ => none }
def ProofTextsWrongFalsely : Prop := proofTextsRow.holds Tryd.pinned (OpenSpec.ofChange proofTextsWrong)

/-- 'torrentlaw7.ProofTops': WHATEVER THE INPUT: true; the input reads as it did. -/
def proofTopsSpec : ChangeSpec := { name := "proofTops", fn := fun _ => fun
  | [d1, d2, d3] => { results := [.lit (.bool true)], args := [d1, d2, d3] }
  | _ => none }
def proofTopsRow : OpenClaim := { program := "ytcjnpaikmcjjlaadoor", sum := "467295069cb46ad9b9f3eee71e08023d633271b22ebd4bb884b07626c617fa45", func := "torrent/torrentlaw7.ProofTops", spec := "proofTops", named := ["math/bits.deBruijn32tab", "math/bits.deBruijn64tab"], apart := false, laid := [("math/bits.deBruijn32tab", laid_math_bits_deBruijn32tab), ("math/bits.deBruijn64tab", laid_math_bits_deBruijn64tab)] }
def ProofTopsSaid : Prop := proofTopsRow.holds Tryd.pinned (OpenSpec.ofChange proofTopsSpec)

/-- ITS FALSE NEIGHBOUR: 'it returns false'. Refute it at one input. -/
def proofTopsWrong : ChangeSpec := { name := "proofTops", fn := fun _ => fun
  | [d1, d2, d3] => { results := [.lit (.bool false)], args := [d1, d2, d3] }
  | _ => none }
def ProofTopsWrongFalsely : Prop := proofTopsRow.holds Tryd.pinned (OpenSpec.ofChange proofTopsWrong)

/-- 'torrentlaw7.ProofClimbs': WHATEVER THE INPUT: true; the input reads as it did. -/
def proofClimbsSpec : ChangeSpec := { name := "proofClimbs", fn := fun _ => fun
  | [d1, d2, d3] => { results := [.lit (.bool true)], args := [d1, d2, d3] }
  | _ => none }
def proofClimbsRow : OpenClaim := { program := "ytcjnpaikmcjjlaadoor", sum := "467295069cb46ad9b9f3eee71e08023d633271b22ebd4bb884b07626c617fa45", func := "torrent/torrentlaw7.ProofClimbs", spec := "proofClimbs", unfollowed := true, recurses := true, named := ["math/bits.deBruijn32tab", "math/bits.deBruijn64tab", "torrent/digest.firstState", "torrent/digest.roundConstants"], apart := false, laid := [("math/bits.deBruijn32tab", laid_math_bits_deBruijn32tab), ("math/bits.deBruijn64tab", laid_math_bits_deBruijn64tab), ("torrent/digest.roundConstants", laid_torrent_digest_roundConstants), ("torrent/digest.firstState", laid_torrent_digest_firstState)] }
def ProofClimbsSaid : Prop := proofClimbsRow.holds Tryd.pinned (OpenSpec.ofChange proofClimbsSpec)

/-- ITS FALSE NEIGHBOUR: 'it returns false'. Refute it at one input. -/
def proofClimbsWrong : ChangeSpec := { name := "proofClimbs", fn := fun _ => fun
  | [d1, d2, d3] => { results := [.lit (.bool false)], args := [d1, d2, d3] }
  | _ => none }
def ProofClimbsWrongFalsely : Prop := proofClimbsRow.holds Tryd.pinned (OpenSpec.ofChange proofClimbsWrong)

/-- 'torrentlaw7.ProofCollides': WHATEVER THE INPUT: true; the input reads as it did. -/
def proofCollidesSpec : ChangeSpec := { name := "proofCollides", fn := fun _ => fun
  | [d1, d2, d3] => { results := [.lit (.bool true)], args := [d1, d2, d3] }
  | _ => none }
def proofCollidesRow : OpenClaim := { program := "ytcjnpaikmcjjlaadoor", sum := "467295069cb46ad9b9f3eee71e08023d633271b22ebd4bb884b07626c617fa45", func := "torrent/torrentlaw7.ProofCollides", spec := "proofCollides", unfollowed := true, recurses := true, named := ["torrent/digest.firstState", "torrent/digest.roundConstants"], apart := false, laid := [("torrent/digest.roundConstants", laid_torrent_digest_roundConstants), ("torrent/digest.firstState", laid_torrent_digest_firstState)] }
def ProofCollidesSaid : Prop := proofCollidesRow.holds Tryd.pinned (OpenSpec.ofChange proofCollidesSpec)

/-- ITS FALSE NEIGHBOUR: 'it returns false'. Refute it at one input. -/
def proofCollidesWrong : ChangeSpec := { name := "proofCollides", fn := fun _ => fun
  | [d1, d2, d3] => { results := [.lit (.bool false)], args := [d1, d2, d3] }
  | _ => none }
def ProofCollidesWrongFalsely : Prop := proofCollidesRow.holds Tryd.pinned (OpenSpec.ofChange proofCollidesWrong)

/-- 'torrentlaw7.ProofProves': WHATEVER THE INPUT: true; the input reads as it did. -/
def proofProvesSpec : ChangeSpec := { name := "proofProves", fn := fun _ => fun
  | [d1, d2, d3, d4] => { results := [.lit (.bool true)], args := [d1, d2, d3, d4] }
  | _ => none }
def proofProvesRow : OpenClaim := { program := "ytcjnpaikmcjjlaadoor", sum := "467295069cb46ad9b9f3eee71e08023d633271b22ebd4bb884b07626c617fa45", func := "torrent/torrentlaw7.ProofProves", spec := "proofProves", recurses := true, named := ["torrent/digest.firstState", "torrent/digest.roundConstants", "math/bits.deBruijn32tab", "math/bits.deBruijn64tab"], apart := false, laid := [("math/bits.deBruijn32tab", laid_math_bits_deBruijn32tab), ("math/bits.deBruijn64tab", laid_math_bits_deBruijn64tab), ("torrent/digest.roundConstants", laid_torrent_digest_roundConstants), ("torrent/digest.firstState", laid_torrent_digest_firstState)] }
def ProofProvesSaid : Prop := proofProvesRow.holds Tryd.pinned (OpenSpec.ofChange proofProvesSpec)

/-- ITS FALSE NEIGHBOUR: 'it returns false'. Refute it at one input. -/
def proofProvesWrong : ChangeSpec := { name := "proofProves", fn := fun _ => fun
  | [d1, d2, d3, d4] => { results := [.lit (.bool false)], args := [d1, d2, d3, d4] }
  | _ => none }
def ProofProvesWrongFalsely : Prop := proofProvesRow.holds Tryd.pinned (OpenSpec.ofChange proofProvesWrong)

/-- 'torrentlaw7.ProofVerifies': WHATEVER THE INPUT: true; the input reads as it did. -/
def proofVerifiesSpec : ChangeSpec := { name := "proofVerifies", fn := fun _ => fun
  | [d1, d2, d3, d4, d5] => { results := [.lit (.bool true)], args := [d1, d2, d3, d4, d5] }
  | _ => none }
def proofVerifiesRow : OpenClaim := { program := "ytcjnpaikmcjjlaadoor", sum := "467295069cb46ad9b9f3eee71e08023d633271b22ebd4bb884b07626c617fa45", func := "torrent/torrentlaw7.ProofVerifies", spec := "proofVerifies", unfollowed := true, recurses := true, named := ["math/bits.deBruijn32tab", "math/bits.deBruijn64tab", "torrent/digest.firstState", "torrent/digest.roundConstants"], apart := false, laid := [("math/bits.deBruijn32tab", laid_math_bits_deBruijn32tab), ("math/bits.deBruijn64tab", laid_math_bits_deBruijn64tab), ("torrent/digest.roundConstants", laid_torrent_digest_roundConstants), ("torrent/digest.firstState", laid_torrent_digest_firstState)] }
def ProofVerifiesSaid : Prop := proofVerifiesRow.holds Tryd.pinned (OpenSpec.ofChange proofVerifiesSpec)

/-- ITS FALSE NEIGHBOUR: 'it returns false'. Refute it at one input. -/
def proofVerifiesWrong : ChangeSpec := { name := "proofVerifies", fn := fun _ => fun
  | [d1, d2, d3, d4, d5] => { results := [.lit (.bool false)], args := [d1, d2, d3, d4, d5] }
  | _ => none }
def ProofVerifiesWrongFalsely : Prop := proofVerifiesRow.holds Tryd.pinned (OpenSpec.ofChange proofVerifiesWrong)

/-- 'torrentlaw7.ProofBinds': WHATEVER THE INPUT: true; the input reads as it did. -/
def proofBindsSpec : ChangeSpec := { name := "proofBinds", fn := fun _ => fun
  | [d1, d2, d3, d4] => { results := [.lit (.bool true)], args := [d1, d2, d3, d4] }
  | _ => none }
def proofBindsRow : OpenClaim := { program := "ytcjnpaikmcjjlaadoor", sum := "467295069cb46ad9b9f3eee71e08023d633271b22ebd4bb884b07626c617fa45", func := "torrent/torrentlaw7.ProofBinds", spec := "proofBinds", unfollowed := true, recurses := true, named := ["torrent/digest.firstState", "torrent/digest.roundConstants"], apart := false, laid := [("torrent/digest.roundConstants", laid_torrent_digest_roundConstants), ("torrent/digest.firstState", laid_torrent_digest_firstState)] }
def ProofBindsSaid : Prop := proofBindsRow.holds Tryd.pinned (OpenSpec.ofChange proofBindsSpec)

/-- ITS FALSE NEIGHBOUR: 'it returns false'. Refute it at one input. -/
def proofBindsWrong : ChangeSpec := { name := "proofBinds", fn := fun _ => fun
  | [d1, d2, d3, d4] => { results := [.lit (.bool false)], args := [d1, d2, d3, d4] }
  | _ => none }
def ProofBindsWrongFalsely : Prop := proofBindsRow.holds Tryd.pinned (OpenSpec.ofChange proofBindsWrong)

/-- 'torrentlaw7.ProofBetrays': WHATEVER THE INPUT: true; the input reads as it did. -/
def proofBetraysSpec : ChangeSpec := { name := "proofBetrays", fn := fun _ => fun
  | [d1, d2, d3, d4, d5] => { results := [.lit (.bool true)], args := [d1, d2, d3, d4, d5] }
  | _ => none }
def proofBetraysRow : OpenClaim := { program := "ytcjnpaikmcjjlaadoor", sum := "467295069cb46ad9b9f3eee71e08023d633271b22ebd4bb884b07626c617fa45", func := "torrent/torrentlaw7.ProofBetrays", spec := "proofBetrays", unfollowed := true, recurses := true, named := ["math/bits.deBruijn32tab", "math/bits.deBruijn64tab", "torrent/digest.firstState", "torrent/digest.roundConstants"], apart := false, laid := [("math/bits.deBruijn32tab", laid_math_bits_deBruijn32tab), ("math/bits.deBruijn64tab", laid_math_bits_deBruijn64tab), ("torrent/digest.roundConstants", laid_torrent_digest_roundConstants), ("torrent/digest.firstState", laid_torrent_digest_firstState)] }
def ProofBetraysSaid : Prop := proofBetraysRow.holds Tryd.pinned (OpenSpec.ofChange proofBetraysSpec)

/-- ITS FALSE NEIGHBOUR: 'it returns false'. Refute it at one input. -/
def proofBetraysWrong : ChangeSpec := { name := "proofBetrays", fn := fun _ => fun
  | [d1, d2, d3, d4, d5] => { results := [.lit (.bool false)], args := [d1, d2, d3, d4, d5] }
  | _ => none }
def ProofBetraysWrongFalsely : Prop := proofBetraysRow.holds Tryd.pinned (OpenSpec.ofChange proofBetraysWrong)

/-- 'torrentlaw7.ProofFetches': WHATEVER THE INPUT: true; the input reads as it did. -/
def proofFetchesSpec : ChangeSpec := { name := "proofFetches", fn := fun _ => fun
  | [d1, d2, d3, d4] => { results := [.lit (.bool true)], args := [d1, d2, d3, d4] }
  | _ => none }
def proofFetchesRow : OpenClaim := { program := "ytcjnpaikmcjjlaadoor", sum := "467295069cb46ad9b9f3eee71e08023d633271b22ebd4bb884b07626c617fa45", func := "torrent/torrentlaw7.ProofFetches", spec := "proofFetches", unfollowed := true, recurses := true, named := ["torrent/digest.firstState", "torrent/digest.roundConstants", "math/bits.deBruijn32tab", "math/bits.deBruijn64tab"], apart := false, laid := [("math/bits.deBruijn32tab", laid_math_bits_deBruijn32tab), ("math/bits.deBruijn64tab", laid_math_bits_deBruijn64tab), ("torrent/digest.roundConstants", laid_torrent_digest_roundConstants), ("torrent/digest.firstState", laid_torrent_digest_firstState)] }
def ProofFetchesSaid : Prop := proofFetchesRow.holds Tryd.pinned (OpenSpec.ofChange proofFetchesSpec)

/-- ITS FALSE NEIGHBOUR: 'it returns false'. Refute it at one input. -/
def proofFetchesWrong : ChangeSpec := { name := "proofFetches", fn := fun _ => fun
  | [d1, d2, d3, d4] => { results := [.lit (.bool false)], args := [d1, d2, d3, d4] }
  | _ => none }
def ProofFetchesWrongFalsely : Prop := proofFetchesRow.holds Tryd.pinned (OpenSpec.ofChange proofFetchesWrong)

/-- 'torrentlaw7.ProofComplete': WHATEVER THE INPUT: true; the input reads as it did. -/
def proofCompleteSpec : ChangeSpec := { name := "proofComplete", fn := fun _ => fun
  | [d1, d2, d3, d4] => { results := [.lit (.bool true)], args := [d1, d2, d3, d4] }
  | _ => none }
def proofCompleteRow : OpenClaim := { program := "ytcjnpaikmcjjlaadoor", sum := "467295069cb46ad9b9f3eee71e08023d633271b22ebd4bb884b07626c617fa45", func := "torrent/torrentlaw7.ProofComplete", spec := "proofComplete", unfollowed := true, recurses := true, named := ["torrent/digest.firstState", "torrent/digest.roundConstants", "math/bits.deBruijn32tab", "math/bits.deBruijn64tab"], apart := false, laid := [("math/bits.deBruijn32tab", laid_math_bits_deBruijn32tab), ("math/bits.deBruijn64tab", laid_math_bits_deBruijn64tab), ("torrent/digest.roundConstants", laid_torrent_digest_roundConstants), ("torrent/digest.firstState", laid_torrent_digest_firstState)] }
def ProofCompleteSaid : Prop := proofCompleteRow.holds Tryd.pinned (OpenSpec.ofChange proofCompleteSpec)

/-- ITS FALSE NEIGHBOUR: 'it returns false'. Refute it at one input. -/
def proofCompleteWrong : ChangeSpec := { name := "proofComplete", fn := fun _ => fun
  | [d1, d2, d3, d4] => { results := [.lit (.bool false)], args := [d1, d2, d3, d4] }
  | _ => none }
def ProofCompleteWrongFalsely : Prop := proofCompleteRow.holds Tryd.pinned (OpenSpec.ofChange proofCompleteWrong)

/-- 'torrentlaw7.ProofSound': WHATEVER THE INPUT: true; the input reads as it did. -/
def proofSoundSpec : ChangeSpec := { name := "proofSound", fn := fun _ => fun
  | [d1, d2, d3, d4, d5, d6] => { results := [.lit (.bool true)], args := [d1, d2, d3, d4, d5, d6] }
  | _ => none }
def proofSoundRow : OpenClaim := { program := "ytcjnpaikmcjjlaadoor", sum := "467295069cb46ad9b9f3eee71e08023d633271b22ebd4bb884b07626c617fa45", func := "torrent/torrentlaw7.ProofSound", spec := "proofSound", unfollowed := true, recurses := true, named := ["torrent/digest.firstState", "torrent/digest.roundConstants", "math/bits.deBruijn32tab", "math/bits.deBruijn64tab"], apart := false, laid := [("math/bits.deBruijn32tab", laid_math_bits_deBruijn32tab), ("math/bits.deBruijn64tab", laid_math_bits_deBruijn64tab), ("torrent/digest.roundConstants", laid_torrent_digest_roundConstants), ("torrent/digest.firstState", laid_torrent_digest_firstState)] }
def ProofSoundSaid : Prop := proofSoundRow.holds Tryd.pinned (OpenSpec.ofChange proofSoundSpec)

/-- ITS FALSE NEIGHBOUR: 'it returns false'. Refute it at one input. -/
def proofSoundWrong : ChangeSpec := { name := "proofSound", fn := fun _ => fun
  | [d1, d2, d3, d4, d5, d6] => { results := [.lit (.bool false)], args := [d1, d2, d3, d4, d5, d6] }
  | _ => none }
def ProofSoundWrongFalsely : Prop := proofSoundRow.holds Tryd.pinned (OpenSpec.ofChange proofSoundWrong)

/-- 'torrentlaw7.ProofKept': WHATEVER THE INPUT: true; the input reads as it did. -/
def proofKeptSpec : ChangeSpec := { name := "proofKept", fn := fun _ => fun
  | [d1, d2, d3, d4] => { results := [.lit (.bool true)], args := [d1, d2, d3, d4] }
  | _ => none }
def proofKeptRow : OpenClaim := { program := "ytcjnpaikmcjjlaadoor", sum := "467295069cb46ad9b9f3eee71e08023d633271b22ebd4bb884b07626c617fa45", func := "torrent/torrentlaw7.ProofKept", spec := "proofKept", unfollowed := true, recurses := true, named := ["torrent/digest.firstState", "torrent/digest.roundConstants", "math/bits.deBruijn32tab", "math/bits.deBruijn64tab"], apart := false, laid := [("math/bits.deBruijn32tab", laid_math_bits_deBruijn32tab), ("math/bits.deBruijn64tab", laid_math_bits_deBruijn64tab), ("torrent/digest.roundConstants", laid_torrent_digest_roundConstants), ("torrent/digest.firstState", laid_torrent_digest_firstState)] }
def ProofKeptSaid : Prop := proofKeptRow.holds Tryd.pinned (OpenSpec.ofChange proofKeptSpec)

/-- ITS FALSE NEIGHBOUR: 'it returns false'. Refute it at one input. -/
def proofKeptWrong : ChangeSpec := { name := "proofKept", fn := fun _ => fun
  | [d1, d2, d3, d4] => { results := [.lit (.bool false)], args := [d1, d2, d3, d4] }
  | _ => none }
def ProofKeptWrongFalsely : Prop := proofKeptRow.holds Tryd.pinned (OpenSpec.ofChange proofKeptWrong)

/- THE SECOND FORM. 'bulk': how many values and letters a reading holds, each counted each time it is reached (what is shared counts as often as it is met; a slice's spare places count too). A statement '..UptoSaid' is the law's where the arguments, and the package variables that the reading takes, are together of bulk at most 1048576: NARROWER than '..Said'. Prove '..Said' where nothing that the law and all that it calls make is longer than what came in: it says more and counts as full. Else prove '..UptoSaid'. A law counts once. -/
mutual
def uptoBulk {H : Type} : DataW H → Nat
  | .lit (.string bytes) => bytes.length + 1
  | .lit _ => 1
  | .nil => 1
  | .ptr d => uptoBulk d + 1
  | .slice elems spare => uptoBulkAll elems + uptoBulkAll spare + 1
  | .agg parts => uptoBulkAll parts + 1
  | .iface _ d => uptoBulk d + 1
  | .map entries => uptoBulkEntries entries + 1
  | .held _ => 1
def uptoBulkAll {H : Type} : List (DataW H) → Nat
  | [] => 0
  | d :: r => uptoBulk d + uptoBulkAll r
def uptoBulkEntries {H : Type} : List (Lit × DataW H) → Nat
  | [] => 0
  | x :: r => uptoBulkEntry x + uptoBulkEntries r
def uptoBulkEntry {H : Type} : Lit × DataW H → Nat
  | (.string bytes, d) => bytes.length + uptoBulk d + 1
  | (_, d) => uptoBulk d + 1
 end
def uptoSmall : (H : Type) → List (DataW H) → Bool := fun _ ds => decide (uptoBulkAll ds ≤ 1048576)
def OpenSpec.upto (s : _root_.Go.ChangeSpec) : _root_.Go.OpenSpec := { _root_.Go.OpenSpec.ofChange s with cond := some uptoSmall }

/-- 'torrentlaw7.ProofAmounts', WHERE WHAT IT READS IS OF BULK AT MOST 1048576: true; the input reads as it did. -/
def proofAmountsUptoRow : OpenClaim := { program := "ytcjnpaikmcjjlaadoor", sum := "467295069cb46ad9b9f3eee71e08023d633271b22ebd4bb884b07626c617fa45", func := "torrent/torrentlaw7.ProofAmounts", spec := "proofAmounts", named := ["math/bits.deBruijn32tab", "math/bits.deBruijn64tab"], apart := false, laid := [("math/bits.deBruijn32tab", laid_math_bits_deBruijn32tab), ("math/bits.deBruijn64tab", laid_math_bits_deBruijn64tab)], narrowed := true }
def ProofAmountsUptoSaid : Prop := proofAmountsUptoRow.holds Tryd.pinned (OpenSpec.upto proofAmountsSpec)

/-- 'torrentlaw7.ProofTexts', WHERE WHAT IT READS IS OF BULK AT MOST 1048576: true; the input reads as it did. -/
def proofTextsUptoRow : OpenClaim := { program := "ytcjnpaikmcjjlaadoor", sum := "467295069cb46ad9b9f3eee71e08023d633271b22ebd4bb884b07626c617fa45", func := "torrent/torrentlaw7.ProofTexts", spec := "proofTexts", unfollowed := true, recurses := true, named := ["torrent/digest.firstState", "torrent/digest.roundConstants", "math/bits.deBruijn32tab", "math/bits.deBruijn64tab"], apart := false, laid := [("math/bits.deBruijn32tab", laid_math_bits_deBruijn32tab), ("math/bits.deBruijn64tab", laid_math_bits_deBruijn64tab), ("torrent/digest.roundConstants", laid_torrent_digest_roundConstants), ("torrent/digest.firstState", laid_torrent_digest_firstState)], narrowed := true }
def ProofTextsUptoSaid : Prop := proofTextsUptoRow.holds Tryd.pinned (OpenSpec.upto proofTextsSpec)

/-- 'torrentlaw7.ProofTops', WHERE WHAT IT READS IS OF BULK AT MOST 1048576: true; the input reads as it did. -/
def proofTopsUptoRow : OpenClaim := { program := "ytcjnpaikmcjjlaadoor", sum := "467295069cb46ad9b9f3eee71e08023d633271b22ebd4bb884b07626c617fa45", func := "torrent/torrentlaw7.ProofTops", spec := "proofTops", named := ["math/bits.deBruijn32tab", "math/bits.deBruijn64tab"], apart := false, laid := [("math/bits.deBruijn32tab", laid_math_bits_deBruijn32tab), ("math/bits.deBruijn64tab", laid_math_bits_deBruijn64tab)], narrowed := true }
def ProofTopsUptoSaid : Prop := proofTopsUptoRow.holds Tryd.pinned (OpenSpec.upto proofTopsSpec)

/-- 'torrentlaw7.ProofClimbs', WHERE WHAT IT READS IS OF BULK AT MOST 1048576: true; the input reads as it did. -/
def proofClimbsUptoRow : OpenClaim := { program := "ytcjnpaikmcjjlaadoor", sum := "467295069cb46ad9b9f3eee71e08023d633271b22ebd4bb884b07626c617fa45", func := "torrent/torrentlaw7.ProofClimbs", spec := "proofClimbs", unfollowed := true, recurses := true, named := ["math/bits.deBruijn32tab", "math/bits.deBruijn64tab", "torrent/digest.firstState", "torrent/digest.roundConstants"], apart := false, laid := [("math/bits.deBruijn32tab", laid_math_bits_deBruijn32tab), ("math/bits.deBruijn64tab", laid_math_bits_deBruijn64tab), ("torrent/digest.roundConstants", laid_torrent_digest_roundConstants), ("torrent/digest.firstState", laid_torrent_digest_firstState)], narrowed := true }
def ProofClimbsUptoSaid : Prop := proofClimbsUptoRow.holds Tryd.pinned (OpenSpec.upto proofClimbsSpec)

/-- 'torrentlaw7.ProofCollides', WHERE WHAT IT READS IS OF BULK AT MOST 1048576: true; the input reads as it did. -/
def proofCollidesUptoRow : OpenClaim := { program := "ytcjnpaikmcjjlaadoor", sum := "467295069cb46ad9b9f3eee71e08023d633271b22ebd4bb884b07626c617fa45", func := "torrent/torrentlaw7.ProofCollides", spec := "proofCollides", unfollowed := true, recurses := true, named := ["torrent/digest.firstState", "torrent/digest.roundConstants"], apart := false, laid := [("torrent/digest.roundConstants", laid_torrent_digest_roundConstants), ("torrent/digest.firstState", laid_torrent_digest_firstState)], narrowed := true }
def ProofCollidesUptoSaid : Prop := proofCollidesUptoRow.holds Tryd.pinned (OpenSpec.upto proofCollidesSpec)

/-- 'torrentlaw7.ProofProves', WHERE WHAT IT READS IS OF BULK AT MOST 1048576: true; the input reads as it did. -/
def proofProvesUptoRow : OpenClaim := { program := "ytcjnpaikmcjjlaadoor", sum := "467295069cb46ad9b9f3eee71e08023d633271b22ebd4bb884b07626c617fa45", func := "torrent/torrentlaw7.ProofProves", spec := "proofProves", recurses := true, named := ["torrent/digest.firstState", "torrent/digest.roundConstants", "math/bits.deBruijn32tab", "math/bits.deBruijn64tab"], apart := false, laid := [("math/bits.deBruijn32tab", laid_math_bits_deBruijn32tab), ("math/bits.deBruijn64tab", laid_math_bits_deBruijn64tab), ("torrent/digest.roundConstants", laid_torrent_digest_roundConstants), ("torrent/digest.firstState", laid_torrent_digest_firstState)], narrowed := true }
def ProofProvesUptoSaid : Prop := proofProvesUptoRow.holds Tryd.pinned (OpenSpec.upto proofProvesSpec)

/-- 'torrentlaw7.ProofVerifies', WHERE WHAT IT READS IS OF BULK AT MOST 1048576: true; the input reads as it did. -/
def proofVerifiesUptoRow : OpenClaim := { program := "ytcjnpaikmcjjlaadoor", sum := "467295069cb46ad9b9f3eee71e08023d633271b22ebd4bb884b07626c617fa45", func := "torrent/torrentlaw7.ProofVerifies", spec := "proofVerifies", unfollowed := true, recurses := true, named := ["math/bits.deBruijn32tab", "math/bits.deBruijn64tab", "torrent/digest.firstState", "torrent/digest.roundConstants"], apart := false, laid := [("math/bits.deBruijn32tab", laid_math_bits_deBruijn32tab), ("math/bits.deBruijn64tab", laid_math_bits_deBruijn64tab), ("torrent/digest.roundConstants", laid_torrent_digest_roundConstants), ("torrent/digest.firstState", laid_torrent_digest_firstState)], narrowed := true }
def ProofVerifiesUptoSaid : Prop := proofVerifiesUptoRow.holds Tryd.pinned (OpenSpec.upto proofVerifiesSpec)

/-- 'torrentlaw7.ProofBinds', WHERE WHAT IT READS IS OF BULK AT MOST 1048576: true; the input reads as it did. -/
def proofBindsUptoRow : OpenClaim := { program := "ytcjnpaikmcjjlaadoor", sum := "467295069cb46ad9b9f3eee71e08023d633271b22ebd4bb884b07626c617fa45", func := "torrent/torrentlaw7.ProofBinds", spec := "proofBinds", unfollowed := true, recurses := true, named := ["torrent/digest.firstState", "torrent/digest.roundConstants"], apart := false, laid := [("torrent/digest.roundConstants", laid_torrent_digest_roundConstants), ("torrent/digest.firstState", laid_torrent_digest_firstState)], narrowed := true }
def ProofBindsUptoSaid : Prop := proofBindsUptoRow.holds Tryd.pinned (OpenSpec.upto proofBindsSpec)

/-- 'torrentlaw7.ProofBetrays', WHERE WHAT IT READS IS OF BULK AT MOST 1048576: true; the input reads as it did. -/
def proofBetraysUptoRow : OpenClaim := { program := "ytcjnpaikmcjjlaadoor", sum := "467295069cb46ad9b9f3eee71e08023d633271b22ebd4bb884b07626c617fa45", func := "torrent/torrentlaw7.ProofBetrays", spec := "proofBetrays", unfollowed := true, recurses := true, named := ["math/bits.deBruijn32tab", "math/bits.deBruijn64tab", "torrent/digest.firstState", "torrent/digest.roundConstants"], apart := false, laid := [("math/bits.deBruijn32tab", laid_math_bits_deBruijn32tab), ("math/bits.deBruijn64tab", laid_math_bits_deBruijn64tab), ("torrent/digest.roundConstants", laid_torrent_digest_roundConstants), ("torrent/digest.firstState", laid_torrent_digest_firstState)], narrowed := true }
def ProofBetraysUptoSaid : Prop := proofBetraysUptoRow.holds Tryd.pinned (OpenSpec.upto proofBetraysSpec)

/-- 'torrentlaw7.ProofFetches', WHERE WHAT IT READS IS OF BULK AT MOST 1048576: true; the input reads as it did. -/
def proofFetchesUptoRow : OpenClaim := { program := "ytcjnpaikmcjjlaadoor", sum := "467295069cb46ad9b9f3eee71e08023d633271b22ebd4bb884b07626c617fa45", func := "torrent/torrentlaw7.ProofFetches", spec := "proofFetches", unfollowed := true, recurses := true, named := ["torrent/digest.firstState", "torrent/digest.roundConstants", "math/bits.deBruijn32tab", "math/bits.deBruijn64tab"], apart := false, laid := [("math/bits.deBruijn32tab", laid_math_bits_deBruijn32tab), ("math/bits.deBruijn64tab", laid_math_bits_deBruijn64tab), ("torrent/digest.roundConstants", laid_torrent_digest_roundConstants), ("torrent/digest.firstState", laid_torrent_digest_firstState)], narrowed := true }
def ProofFetchesUptoSaid : Prop := proofFetchesUptoRow.holds Tryd.pinned (OpenSpec.upto proofFetchesSpec)

/-- 'torrentlaw7.ProofComplete', WHERE WHAT IT READS IS OF BULK AT MOST 1048576: true; the input reads as it did. -/
def proofCompleteUptoRow : OpenClaim := { program := "ytcjnpaikmcjjlaadoor", sum := "467295069cb46ad9b9f3eee71e08023d633271b22ebd4bb884b07626c617fa45", func := "torrent/torrentlaw7.ProofComplete", spec := "proofComplete", unfollowed := true, recurses := true, named := ["torrent/digest.firstState", "torrent/digest.roundConstants", "math/bits.deBruijn32tab", "math/bits.deBruijn64tab"], apart := false, laid := [("math/bits.deBruijn32tab", laid_math_bits_deBruijn32tab), ("math/bits.deBruijn64tab", laid_math_bits_deBruijn64tab), ("torrent/digest.roundConstants", laid_torrent_digest_roundConstants), ("torrent/digest.firstState", laid_torrent_digest_firstState)], narrowed := true }
def ProofCompleteUptoSaid : Prop := proofCompleteUptoRow.holds Tryd.pinned (OpenSpec.upto proofCompleteSpec)

/-- 'torrentlaw7.ProofSound', WHERE WHAT IT READS IS OF BULK AT MOST 1048576: true; the input reads as it did. -/
def proofSoundUptoRow : OpenClaim := { program := "ytcjnpaikmcjjlaadoor", sum := "467295069cb46ad9b9f3eee71e08023d633271b22ebd4bb884b07626c617fa45", func := "torrent/torrentlaw7.ProofSound", spec := "proofSound", unfollowed := true, recurses := true, named := ["torrent/digest.firstState", "torrent/digest.roundConstants", "math/bits.deBruijn32tab", "math/bits.deBruijn64tab"], apart := false, laid := [("math/bits.deBruijn32tab", laid_math_bits_deBruijn32tab), ("math/bits.deBruijn64tab", laid_math_bits_deBruijn64tab), ("torrent/digest.roundConstants", laid_torrent_digest_roundConstants), ("torrent/digest.firstState", laid_torrent_digest_firstState)], narrowed := true }
def ProofSoundUptoSaid : Prop := proofSoundUptoRow.holds Tryd.pinned (OpenSpec.upto proofSoundSpec)

/-- 'torrentlaw7.ProofKept', WHERE WHAT IT READS IS OF BULK AT MOST 1048576: true; the input reads as it did. -/
def proofKeptUptoRow : OpenClaim := { program := "ytcjnpaikmcjjlaadoor", sum := "467295069cb46ad9b9f3eee71e08023d633271b22ebd4bb884b07626c617fa45", func := "torrent/torrentlaw7.ProofKept", spec := "proofKept", unfollowed := true, recurses := true, named := ["torrent/digest.firstState", "torrent/digest.roundConstants", "math/bits.deBruijn32tab", "math/bits.deBruijn64tab"], apart := false, laid := [("math/bits.deBruijn32tab", laid_math_bits_deBruijn32tab), ("math/bits.deBruijn64tab", laid_math_bits_deBruijn64tab), ("torrent/digest.roundConstants", laid_torrent_digest_roundConstants), ("torrent/digest.firstState", laid_torrent_digest_firstState)], narrowed := true }
def ProofKeptUptoSaid : Prop := proofKeptUptoRow.holds Tryd.pinned (OpenSpec.upto proofKeptSpec)

end Rows
end Go.Proofs.YtcjnpaikmcjjlaaDoor

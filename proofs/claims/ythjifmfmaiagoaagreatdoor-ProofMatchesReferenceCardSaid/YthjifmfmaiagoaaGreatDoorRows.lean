/-
  NARROWER THAN 'FOR EVERY INPUT', by the rows' own cells (each row's printed sentence says how): BoundMatchesReference: laid · ProofMatchesReference: laid · ProofSound: laid · ProofComplete: laid · ProofClaims: laid · ProofMonotone: laid · ProofCut: laid · BoundParts: laid · BoundTrue: laid · BoundWays: laid · BoundRange: laid · BoundBlocks: laid · SolveMatchesReference: laid · SolveProves: laid · SolveFirst: laid · SolveWays: laid · SolveErrors: laid · SolveParts: laid · SolveVerdicts: laid · BoundSolve: laid.
  DERIVED. THE GIVEN ROWS OF THIS SEAT. 20 by the template 'for every input the law returns true; each argument reads behind the call as it read before'; 0 by the template 'total and deterministic' (their statements: YthjifmfmaiagoaaGreatDoorTotals.lean).
  GIVEN WITH THE SEED: the statements are not yours to turn. If you find one false, say at which input.
  Laid BY PROGRAM, IN A SANDBOX (cutbox-rows.mjs): the forced cells as the released guide's own fill.sh prints them over the translation ff2eae307d7e711e… (all of the seat's roots in one cut). By AI agents, Wed Nov 11 2026. No macro, syntax, notation, axiom, sorry.
-/
import Derived.Test.YthjifmfmaiagoaaGreatDoorChecked
import GoSem.Claim
import GoSem.ClaimJoined
import GoSem.ClaimMapViews
import Derived.JoinedTies
import Derived.KernelRfl
namespace Go.Proofs.YthjifmfmaiagoaaGreatDoor
/- THE CELL 'sum', in the pinned program and in every row, IS THE sha256 OF THE DUMP (.gsa) THAT YthjifmfmaiagoaaGreatDoorProg.lean LOADS. Nothing in Lean hashes anything: it is a label: what it is worth is what the hold of that sum in a sandbox is worth. -/
noncomputable def Tryz.pinned : Pinned := { name := "ythjifmfmaiagoaagreatdoor", sum := "ff2eae307d7e711e9c30c2b334942542a7a91a7c1a0376d0b754373c1a2c70aa", checked := Tryz.checked }
namespace Rows
def none {H : Type} : Left H := { results := [], args := [] }

/- WHAT THE LISTED PACKAGE-LEVEL VARIABLES READ AS WHEN THE CALL BEGINS. Each datum BY PROGRAM (the guide's laid-datum.mjs) off the statement by which the dump's own 'gosem.cut.vars' lays the variable. In a bare row this is a premise. The card (YthjifmfmaiagoaaGreatDoorCards.lean) ties it to the program's text. -/
def laid_math_bits_deBruijn32tab {H : Type} : DataW H := .agg [.lit (.int .u8 0), .lit (.int .u8 1), .lit (.int .u8 28), .lit (.int .u8 2), .lit (.int .u8 29), .lit (.int .u8 14), .lit (.int .u8 24), .lit (.int .u8 3), .lit (.int .u8 30), .lit (.int .u8 22), .lit (.int .u8 20), .lit (.int .u8 15), .lit (.int .u8 25), .lit (.int .u8 17), .lit (.int .u8 4), .lit (.int .u8 8), .lit (.int .u8 31), .lit (.int .u8 27), .lit (.int .u8 13), .lit (.int .u8 23), .lit (.int .u8 21), .lit (.int .u8 19), .lit (.int .u8 16), .lit (.int .u8 7), .lit (.int .u8 26), .lit (.int .u8 12), .lit (.int .u8 18), .lit (.int .u8 6), .lit (.int .u8 11), .lit (.int .u8 5), .lit (.int .u8 10), .lit (.int .u8 9)]
def laid_math_bits_deBruijn64tab {H : Type} : DataW H := .agg [.lit (.int .u8 0), .lit (.int .u8 1), .lit (.int .u8 56), .lit (.int .u8 2), .lit (.int .u8 57), .lit (.int .u8 49), .lit (.int .u8 28), .lit (.int .u8 3), .lit (.int .u8 61), .lit (.int .u8 58), .lit (.int .u8 42), .lit (.int .u8 50), .lit (.int .u8 38), .lit (.int .u8 29), .lit (.int .u8 17), .lit (.int .u8 4), .lit (.int .u8 62), .lit (.int .u8 47), .lit (.int .u8 59), .lit (.int .u8 36), .lit (.int .u8 45), .lit (.int .u8 43), .lit (.int .u8 51), .lit (.int .u8 22), .lit (.int .u8 53), .lit (.int .u8 39), .lit (.int .u8 33), .lit (.int .u8 30), .lit (.int .u8 24), .lit (.int .u8 18), .lit (.int .u8 12), .lit (.int .u8 5), .lit (.int .u8 63), .lit (.int .u8 55), .lit (.int .u8 48), .lit (.int .u8 27), .lit (.int .u8 60), .lit (.int .u8 41), .lit (.int .u8 37), .lit (.int .u8 16), .lit (.int .u8 46), .lit (.int .u8 35), .lit (.int .u8 44), .lit (.int .u8 21), .lit (.int .u8 52), .lit (.int .u8 32), .lit (.int .u8 23), .lit (.int .u8 11), .lit (.int .u8 54), .lit (.int .u8 26), .lit (.int .u8 40), .lit (.int .u8 15), .lit (.int .u8 34), .lit (.int .u8 20), .lit (.int .u8 31), .lit (.int .u8 10), .lit (.int .u8 25), .lit (.int .u8 14), .lit (.int .u8 19), .lit (.int .u8 9), .lit (.int .u8 13), .lit (.int .u8 8), .lit (.int .u8 7), .lit (.int .u8 6)]
def laid_internal_strconv_uint64pow10 {H : Type} : DataW H := .agg [.lit (.int .u64 1), .lit (.int .u64 10), .lit (.int .u64 100), .lit (.int .u64 1000), .lit (.int .u64 10000), .lit (.int .u64 100000), .lit (.int .u64 1000000), .lit (.int .u64 10000000), .lit (.int .u64 100000000), .lit (.int .u64 1000000000), .lit (.int .u64 10000000000), .lit (.int .u64 100000000000), .lit (.int .u64 1000000000000), .lit (.int .u64 10000000000000), .lit (.int .u64 100000000000000), .lit (.int .u64 1000000000000000), .lit (.int .u64 10000000000000000), .lit (.int .u64 100000000000000000), .lit (.int .u64 1000000000000000000), .lit (.int .u64 10000000000000000000)]

/-- 'cleanselaw32.BoundMatchesReference': WHATEVER THE INPUT: true; the input reads as it did. -/
def boundMatchesReferenceSpec : ChangeSpec := { name := "boundMatchesReference", fn := fun _ => fun
  | [d1, d2, d3] => { results := [.lit (.bool true)], args := [d1, d2, d3] }
  | _ => none }
def boundMatchesReferenceRow : OpenClaim := { program := "ythjifmfmaiagoaagreatdoor", sum := "ff2eae307d7e711e9c30c2b334942542a7a91a7c1a0376d0b754373c1a2c70aa", func := "cleanse/cleanselaw32.BoundMatchesReference", spec := "boundMatchesReference", unfollowed := true, recurses := true, named := ["internal/strconv.uint64pow10", "math/bits.deBruijn32tab", "math/bits.deBruijn64tab"], apart := false, laid := [("math/bits.deBruijn32tab", laid_math_bits_deBruijn32tab), ("math/bits.deBruijn64tab", laid_math_bits_deBruijn64tab), ("internal/strconv.uint64pow10", laid_internal_strconv_uint64pow10)] }
def BoundMatchesReferenceSaid : Prop := boundMatchesReferenceRow.holds Tryz.pinned (OpenSpec.ofChange boundMatchesReferenceSpec)

/-- ITS FALSE NEIGHBOUR: 'it returns false'. Refute it at one input. -/
def boundMatchesReferenceWrong : ChangeSpec := { name := "boundMatchesReference", fn := fun _ => fun
  | [d1, d2, d3] => { results := [.lit (.bool false)], args := [d1, d2, d3] }
  | _ => none }
def BoundMatchesReferenceWrongFalsely : Prop := boundMatchesReferenceRow.holds Tryz.pinned (OpenSpec.ofChange boundMatchesReferenceWrong)

/-- 'cleanselaw30.ProofMatchesReference': WHATEVER THE INPUT: true; the input reads as it did. -/
def proofMatchesReferenceSpec : ChangeSpec := { name := "proofMatchesReference", fn := fun _ => fun
  | [d1, d2, d3, d4, d5] => { results := [.lit (.bool true)], args := [d1, d2, d3, d4, d5] }
  | _ => none }
def proofMatchesReferenceRow : OpenClaim := { program := "ythjifmfmaiagoaagreatdoor", sum := "ff2eae307d7e711e9c30c2b334942542a7a91a7c1a0376d0b754373c1a2c70aa", func := "cleanse/cleanselaw30.ProofMatchesReference", spec := "proofMatchesReference", unfollowed := true, recurses := true, named := ["internal/strconv.uint64pow10", "math/bits.deBruijn32tab", "math/bits.deBruijn64tab"], apart := false, laid := [("math/bits.deBruijn32tab", laid_math_bits_deBruijn32tab), ("math/bits.deBruijn64tab", laid_math_bits_deBruijn64tab), ("internal/strconv.uint64pow10", laid_internal_strconv_uint64pow10)] }
def ProofMatchesReferenceSaid : Prop := proofMatchesReferenceRow.holds Tryz.pinned (OpenSpec.ofChange proofMatchesReferenceSpec)

/-- ITS FALSE NEIGHBOUR: 'it returns false'. Refute it at one input. -/
def proofMatchesReferenceWrong : ChangeSpec := { name := "proofMatchesReference", fn := fun _ => fun
  | [d1, d2, d3, d4, d5] => { results := [.lit (.bool false)], args := [d1, d2, d3, d4, d5] }
  | _ => none }
def ProofMatchesReferenceWrongFalsely : Prop := proofMatchesReferenceRow.holds Tryz.pinned (OpenSpec.ofChange proofMatchesReferenceWrong)

/-- 'cleanselaw30.ProofSound': WHATEVER THE INPUT: true; the input reads as it did. -/
def proofSoundSpec : ChangeSpec := { name := "proofSound", fn := fun _ => fun
  | [d1, d2, d3] => { results := [.lit (.bool true)], args := [d1, d2, d3] }
  | _ => none }
def proofSoundRow : OpenClaim := { program := "ythjifmfmaiagoaagreatdoor", sum := "ff2eae307d7e711e9c30c2b334942542a7a91a7c1a0376d0b754373c1a2c70aa", func := "cleanse/cleanselaw30.ProofSound", spec := "proofSound", unfollowed := true, recurses := true, named := ["internal/strconv.uint64pow10", "math/bits.deBruijn32tab", "math/bits.deBruijn64tab"], apart := false, laid := [("math/bits.deBruijn32tab", laid_math_bits_deBruijn32tab), ("math/bits.deBruijn64tab", laid_math_bits_deBruijn64tab), ("internal/strconv.uint64pow10", laid_internal_strconv_uint64pow10)] }
def ProofSoundSaid : Prop := proofSoundRow.holds Tryz.pinned (OpenSpec.ofChange proofSoundSpec)

/-- ITS FALSE NEIGHBOUR: 'it returns false'. Refute it at one input. -/
def proofSoundWrong : ChangeSpec := { name := "proofSound", fn := fun _ => fun
  | [d1, d2, d3] => { results := [.lit (.bool false)], args := [d1, d2, d3] }
  | _ => none }
def ProofSoundWrongFalsely : Prop := proofSoundRow.holds Tryz.pinned (OpenSpec.ofChange proofSoundWrong)

/-- 'cleanselaw30.ProofComplete': WHATEVER THE INPUT: true; the input reads as it did. -/
def proofCompleteSpec : ChangeSpec := { name := "proofComplete", fn := fun _ => fun
  | [d1, d2, d3] => { results := [.lit (.bool true)], args := [d1, d2, d3] }
  | _ => none }
def proofCompleteRow : OpenClaim := { program := "ythjifmfmaiagoaagreatdoor", sum := "ff2eae307d7e711e9c30c2b334942542a7a91a7c1a0376d0b754373c1a2c70aa", func := "cleanse/cleanselaw30.ProofComplete", spec := "proofComplete", unfollowed := true, recurses := true, named := ["internal/strconv.uint64pow10", "math/bits.deBruijn32tab", "math/bits.deBruijn64tab"], apart := false, laid := [("math/bits.deBruijn32tab", laid_math_bits_deBruijn32tab), ("math/bits.deBruijn64tab", laid_math_bits_deBruijn64tab), ("internal/strconv.uint64pow10", laid_internal_strconv_uint64pow10)] }
def ProofCompleteSaid : Prop := proofCompleteRow.holds Tryz.pinned (OpenSpec.ofChange proofCompleteSpec)

/-- ITS FALSE NEIGHBOUR: 'it returns false'. Refute it at one input. -/
def proofCompleteWrong : ChangeSpec := { name := "proofComplete", fn := fun _ => fun
  | [d1, d2, d3] => { results := [.lit (.bool false)], args := [d1, d2, d3] }
  | _ => none }
def ProofCompleteWrongFalsely : Prop := proofCompleteRow.holds Tryz.pinned (OpenSpec.ofChange proofCompleteWrong)

/-- 'cleanselaw30.ProofClaims': WHATEVER THE INPUT: true; the input reads as it did. -/
def proofClaimsSpec : ChangeSpec := { name := "proofClaims", fn := fun _ => fun
  | [d1, d2, d3, d4] => { results := [.lit (.bool true)], args := [d1, d2, d3, d4] }
  | _ => none }
def proofClaimsRow : OpenClaim := { program := "ythjifmfmaiagoaagreatdoor", sum := "ff2eae307d7e711e9c30c2b334942542a7a91a7c1a0376d0b754373c1a2c70aa", func := "cleanse/cleanselaw30.ProofClaims", spec := "proofClaims", unfollowed := true, recurses := true, named := ["internal/strconv.uint64pow10", "math/bits.deBruijn32tab", "math/bits.deBruijn64tab"], apart := false, laid := [("math/bits.deBruijn32tab", laid_math_bits_deBruijn32tab), ("math/bits.deBruijn64tab", laid_math_bits_deBruijn64tab), ("internal/strconv.uint64pow10", laid_internal_strconv_uint64pow10)] }
def ProofClaimsSaid : Prop := proofClaimsRow.holds Tryz.pinned (OpenSpec.ofChange proofClaimsSpec)

/-- ITS FALSE NEIGHBOUR: 'it returns false'. Refute it at one input. -/
def proofClaimsWrong : ChangeSpec := { name := "proofClaims", fn := fun _ => fun
  | [d1, d2, d3, d4] => { results := [.lit (.bool false)], args := [d1, d2, d3, d4] }
  | _ => none }
def ProofClaimsWrongFalsely : Prop := proofClaimsRow.holds Tryz.pinned (OpenSpec.ofChange proofClaimsWrong)

/-- 'cleanselaw30.ProofMonotone': WHATEVER THE INPUT: true; the input reads as it did. -/
def proofMonotoneSpec : ChangeSpec := { name := "proofMonotone", fn := fun _ => fun
  | [d1, d2, d3, d4, d5] => { results := [.lit (.bool true)], args := [d1, d2, d3, d4, d5] }
  | _ => none }
def proofMonotoneRow : OpenClaim := { program := "ythjifmfmaiagoaagreatdoor", sum := "ff2eae307d7e711e9c30c2b334942542a7a91a7c1a0376d0b754373c1a2c70aa", func := "cleanse/cleanselaw30.ProofMonotone", spec := "proofMonotone", unfollowed := true, recurses := true, named := ["internal/strconv.uint64pow10", "math/bits.deBruijn32tab", "math/bits.deBruijn64tab"], apart := false, laid := [("math/bits.deBruijn32tab", laid_math_bits_deBruijn32tab), ("math/bits.deBruijn64tab", laid_math_bits_deBruijn64tab), ("internal/strconv.uint64pow10", laid_internal_strconv_uint64pow10)] }
def ProofMonotoneSaid : Prop := proofMonotoneRow.holds Tryz.pinned (OpenSpec.ofChange proofMonotoneSpec)

/-- ITS FALSE NEIGHBOUR: 'it returns false'. Refute it at one input. -/
def proofMonotoneWrong : ChangeSpec := { name := "proofMonotone", fn := fun _ => fun
  | [d1, d2, d3, d4, d5] => { results := [.lit (.bool false)], args := [d1, d2, d3, d4, d5] }
  | _ => none }
def ProofMonotoneWrongFalsely : Prop := proofMonotoneRow.holds Tryz.pinned (OpenSpec.ofChange proofMonotoneWrong)

/-- 'cleanselaw30.ProofCut': WHATEVER THE INPUT: true; the input reads as it did. -/
def proofCutSpec : ChangeSpec := { name := "proofCut", fn := fun _ => fun
  | [d1, d2, d3, d4] => { results := [.lit (.bool true)], args := [d1, d2, d3, d4] }
  | _ => none }
def proofCutRow : OpenClaim := { program := "ythjifmfmaiagoaagreatdoor", sum := "ff2eae307d7e711e9c30c2b334942542a7a91a7c1a0376d0b754373c1a2c70aa", func := "cleanse/cleanselaw30.ProofCut", spec := "proofCut", unfollowed := true, recurses := true, named := ["internal/strconv.uint64pow10", "math/bits.deBruijn32tab", "math/bits.deBruijn64tab"], apart := false, laid := [("math/bits.deBruijn32tab", laid_math_bits_deBruijn32tab), ("math/bits.deBruijn64tab", laid_math_bits_deBruijn64tab), ("internal/strconv.uint64pow10", laid_internal_strconv_uint64pow10)] }
def ProofCutSaid : Prop := proofCutRow.holds Tryz.pinned (OpenSpec.ofChange proofCutSpec)

/-- ITS FALSE NEIGHBOUR: 'it returns false'. Refute it at one input. -/
def proofCutWrong : ChangeSpec := { name := "proofCut", fn := fun _ => fun
  | [d1, d2, d3, d4] => { results := [.lit (.bool false)], args := [d1, d2, d3, d4] }
  | _ => none }
def ProofCutWrongFalsely : Prop := proofCutRow.holds Tryz.pinned (OpenSpec.ofChange proofCutWrong)

/-- 'cleanselaw32.BoundParts': WHATEVER THE INPUT: true; the input reads as it did. -/
def boundPartsSpec : ChangeSpec := { name := "boundParts", fn := fun _ => fun
  | [d1, d2, d3] => { results := [.lit (.bool true)], args := [d1, d2, d3] }
  | _ => none }
def boundPartsRow : OpenClaim := { program := "ythjifmfmaiagoaagreatdoor", sum := "ff2eae307d7e711e9c30c2b334942542a7a91a7c1a0376d0b754373c1a2c70aa", func := "cleanse/cleanselaw32.BoundParts", spec := "boundParts", unfollowed := true, recurses := true, named := ["internal/strconv.uint64pow10", "math/bits.deBruijn32tab", "math/bits.deBruijn64tab"], apart := false, laid := [("math/bits.deBruijn32tab", laid_math_bits_deBruijn32tab), ("math/bits.deBruijn64tab", laid_math_bits_deBruijn64tab), ("internal/strconv.uint64pow10", laid_internal_strconv_uint64pow10)] }
def BoundPartsSaid : Prop := boundPartsRow.holds Tryz.pinned (OpenSpec.ofChange boundPartsSpec)

/-- ITS FALSE NEIGHBOUR: 'it returns false'. Refute it at one input. -/
def boundPartsWrong : ChangeSpec := { name := "boundParts", fn := fun _ => fun
  | [d1, d2, d3] => { results := [.lit (.bool false)], args := [d1, d2, d3] }
  | _ => none }
def BoundPartsWrongFalsely : Prop := boundPartsRow.holds Tryz.pinned (OpenSpec.ofChange boundPartsWrong)

/-- 'cleanselaw32.BoundTrue': WHATEVER THE INPUT: true; the input reads as it did. -/
def boundTrueSpec : ChangeSpec := { name := "boundTrue", fn := fun _ => fun
  | [d1, d2, d3] => { results := [.lit (.bool true)], args := [d1, d2, d3] }
  | _ => none }
def boundTrueRow : OpenClaim := { program := "ythjifmfmaiagoaagreatdoor", sum := "ff2eae307d7e711e9c30c2b334942542a7a91a7c1a0376d0b754373c1a2c70aa", func := "cleanse/cleanselaw32.BoundTrue", spec := "boundTrue", unfollowed := true, recurses := true, named := ["internal/strconv.uint64pow10", "math/bits.deBruijn32tab", "math/bits.deBruijn64tab"], apart := false, laid := [("math/bits.deBruijn32tab", laid_math_bits_deBruijn32tab), ("math/bits.deBruijn64tab", laid_math_bits_deBruijn64tab), ("internal/strconv.uint64pow10", laid_internal_strconv_uint64pow10)] }
def BoundTrueSaid : Prop := boundTrueRow.holds Tryz.pinned (OpenSpec.ofChange boundTrueSpec)

/-- ITS FALSE NEIGHBOUR: 'it returns false'. Refute it at one input. -/
def boundTrueWrong : ChangeSpec := { name := "boundTrue", fn := fun _ => fun
  | [d1, d2, d3] => { results := [.lit (.bool false)], args := [d1, d2, d3] }
  | _ => none }
def BoundTrueWrongFalsely : Prop := boundTrueRow.holds Tryz.pinned (OpenSpec.ofChange boundTrueWrong)

/-- 'cleanselaw32.BoundWays': WHATEVER THE INPUT: true; the input reads as it did. -/
def boundWaysSpec : ChangeSpec := { name := "boundWays", fn := fun _ => fun
  | [d1, d2, d3] => { results := [.lit (.bool true)], args := [d1, d2, d3] }
  | _ => none }
def boundWaysRow : OpenClaim := { program := "ythjifmfmaiagoaagreatdoor", sum := "ff2eae307d7e711e9c30c2b334942542a7a91a7c1a0376d0b754373c1a2c70aa", func := "cleanse/cleanselaw32.BoundWays", spec := "boundWays", unfollowed := true, recurses := true, named := ["internal/strconv.uint64pow10", "math/bits.deBruijn32tab", "math/bits.deBruijn64tab"], apart := false, laid := [("math/bits.deBruijn32tab", laid_math_bits_deBruijn32tab), ("math/bits.deBruijn64tab", laid_math_bits_deBruijn64tab), ("internal/strconv.uint64pow10", laid_internal_strconv_uint64pow10)] }
def BoundWaysSaid : Prop := boundWaysRow.holds Tryz.pinned (OpenSpec.ofChange boundWaysSpec)

/-- ITS FALSE NEIGHBOUR: 'it returns false'. Refute it at one input. -/
def boundWaysWrong : ChangeSpec := { name := "boundWays", fn := fun _ => fun
  | [d1, d2, d3] => { results := [.lit (.bool false)], args := [d1, d2, d3] }
  | _ => none }
def BoundWaysWrongFalsely : Prop := boundWaysRow.holds Tryz.pinned (OpenSpec.ofChange boundWaysWrong)

/-- 'cleanselaw32.BoundRange': WHATEVER THE INPUT: true; the input reads as it did. -/
def boundRangeSpec : ChangeSpec := { name := "boundRange", fn := fun _ => fun
  | [d1, d2, d3] => { results := [.lit (.bool true)], args := [d1, d2, d3] }
  | _ => none }
def boundRangeRow : OpenClaim := { program := "ythjifmfmaiagoaagreatdoor", sum := "ff2eae307d7e711e9c30c2b334942542a7a91a7c1a0376d0b754373c1a2c70aa", func := "cleanse/cleanselaw32.BoundRange", spec := "boundRange", unfollowed := true, recurses := true, named := ["internal/strconv.uint64pow10", "math/bits.deBruijn32tab", "math/bits.deBruijn64tab"], apart := false, laid := [("math/bits.deBruijn32tab", laid_math_bits_deBruijn32tab), ("math/bits.deBruijn64tab", laid_math_bits_deBruijn64tab), ("internal/strconv.uint64pow10", laid_internal_strconv_uint64pow10)] }
def BoundRangeSaid : Prop := boundRangeRow.holds Tryz.pinned (OpenSpec.ofChange boundRangeSpec)

/-- ITS FALSE NEIGHBOUR: 'it returns false'. Refute it at one input. -/
def boundRangeWrong : ChangeSpec := { name := "boundRange", fn := fun _ => fun
  | [d1, d2, d3] => { results := [.lit (.bool false)], args := [d1, d2, d3] }
  | _ => none }
def BoundRangeWrongFalsely : Prop := boundRangeRow.holds Tryz.pinned (OpenSpec.ofChange boundRangeWrong)

/-- 'cleanselaw32.BoundBlocks': WHATEVER THE INPUT: true; the input reads as it did. -/
def boundBlocksSpec : ChangeSpec := { name := "boundBlocks", fn := fun _ => fun
  | [d1, d2] => { results := [.lit (.bool true)], args := [d1, d2] }
  | _ => none }
def boundBlocksRow : OpenClaim := { program := "ythjifmfmaiagoaagreatdoor", sum := "ff2eae307d7e711e9c30c2b334942542a7a91a7c1a0376d0b754373c1a2c70aa", func := "cleanse/cleanselaw32.BoundBlocks", spec := "boundBlocks", unfollowed := true, recurses := true, named := ["internal/strconv.uint64pow10", "math/bits.deBruijn32tab", "math/bits.deBruijn64tab"], apart := false, laid := [("math/bits.deBruijn32tab", laid_math_bits_deBruijn32tab), ("math/bits.deBruijn64tab", laid_math_bits_deBruijn64tab), ("internal/strconv.uint64pow10", laid_internal_strconv_uint64pow10)] }
def BoundBlocksSaid : Prop := boundBlocksRow.holds Tryz.pinned (OpenSpec.ofChange boundBlocksSpec)

/-- ITS FALSE NEIGHBOUR: 'it returns false'. Refute it at one input. -/
def boundBlocksWrong : ChangeSpec := { name := "boundBlocks", fn := fun _ => fun
  | [d1, d2] => { results := [.lit (.bool false)], args := [d1, d2] }
  | _ => none }
def BoundBlocksWrongFalsely : Prop := boundBlocksRow.holds Tryz.pinned (OpenSpec.ofChange boundBlocksWrong)

/-- 'cleanselaw29.SolveMatchesReference': WHATEVER THE INPUT: true; the input reads as it did. -/
def solveMatchesReferenceSpec : ChangeSpec := { name := "solveMatchesReference", fn := fun _ => fun
  | [d1, d2] => { results := [.lit (.bool true)], args := [d1, d2] }
  | _ => none }
def solveMatchesReferenceRow : OpenClaim := { program := "ythjifmfmaiagoaagreatdoor", sum := "ff2eae307d7e711e9c30c2b334942542a7a91a7c1a0376d0b754373c1a2c70aa", func := "cleanse/cleanselaw29.SolveMatchesReference", spec := "solveMatchesReference", unfollowed := true, recurses := true, named := ["internal/strconv.uint64pow10", "math/bits.deBruijn32tab", "math/bits.deBruijn64tab"], apart := false, laid := [("math/bits.deBruijn32tab", laid_math_bits_deBruijn32tab), ("math/bits.deBruijn64tab", laid_math_bits_deBruijn64tab), ("internal/strconv.uint64pow10", laid_internal_strconv_uint64pow10)] }
def SolveMatchesReferenceSaid : Prop := solveMatchesReferenceRow.holds Tryz.pinned (OpenSpec.ofChange solveMatchesReferenceSpec)

/-- ITS FALSE NEIGHBOUR: 'it returns false'. Refute it at one input. -/
def solveMatchesReferenceWrong : ChangeSpec := { name := "solveMatchesReference", fn := fun _ => fun
  | [d1, d2] => { results := [.lit (.bool false)], args := [d1, d2] }
  | _ => none }
def SolveMatchesReferenceWrongFalsely : Prop := solveMatchesReferenceRow.holds Tryz.pinned (OpenSpec.ofChange solveMatchesReferenceWrong)

/-- 'cleanselaw29.SolveProves': WHATEVER THE INPUT: true; the input reads as it did. -/
def solveProvesSpec : ChangeSpec := { name := "solveProves", fn := fun _ => fun
  | [d1, d2] => { results := [.lit (.bool true)], args := [d1, d2] }
  | _ => none }
def solveProvesRow : OpenClaim := { program := "ythjifmfmaiagoaagreatdoor", sum := "ff2eae307d7e711e9c30c2b334942542a7a91a7c1a0376d0b754373c1a2c70aa", func := "cleanse/cleanselaw29.SolveProves", spec := "solveProves", unfollowed := true, recurses := true, named := ["internal/strconv.uint64pow10", "math/bits.deBruijn32tab", "math/bits.deBruijn64tab"], apart := false, laid := [("math/bits.deBruijn32tab", laid_math_bits_deBruijn32tab), ("math/bits.deBruijn64tab", laid_math_bits_deBruijn64tab), ("internal/strconv.uint64pow10", laid_internal_strconv_uint64pow10)] }
def SolveProvesSaid : Prop := solveProvesRow.holds Tryz.pinned (OpenSpec.ofChange solveProvesSpec)

/-- ITS FALSE NEIGHBOUR: 'it returns false'. Refute it at one input. -/
def solveProvesWrong : ChangeSpec := { name := "solveProves", fn := fun _ => fun
  | [d1, d2] => { results := [.lit (.bool false)], args := [d1, d2] }
  | _ => none }
def SolveProvesWrongFalsely : Prop := solveProvesRow.holds Tryz.pinned (OpenSpec.ofChange solveProvesWrong)

/-- 'cleanselaw29.SolveFirst': WHATEVER THE INPUT: true; the input reads as it did. -/
def solveFirstSpec : ChangeSpec := { name := "solveFirst", fn := fun _ => fun
  | [d1, d2, d3] => { results := [.lit (.bool true)], args := [d1, d2, d3] }
  | _ => none }
def solveFirstRow : OpenClaim := { program := "ythjifmfmaiagoaagreatdoor", sum := "ff2eae307d7e711e9c30c2b334942542a7a91a7c1a0376d0b754373c1a2c70aa", func := "cleanse/cleanselaw29.SolveFirst", spec := "solveFirst", unfollowed := true, recurses := true, named := ["internal/strconv.uint64pow10", "math/bits.deBruijn32tab", "math/bits.deBruijn64tab"], apart := false, laid := [("math/bits.deBruijn32tab", laid_math_bits_deBruijn32tab), ("math/bits.deBruijn64tab", laid_math_bits_deBruijn64tab), ("internal/strconv.uint64pow10", laid_internal_strconv_uint64pow10)] }
def SolveFirstSaid : Prop := solveFirstRow.holds Tryz.pinned (OpenSpec.ofChange solveFirstSpec)

/-- ITS FALSE NEIGHBOUR: 'it returns false'. Refute it at one input. -/
def solveFirstWrong : ChangeSpec := { name := "solveFirst", fn := fun _ => fun
  | [d1, d2, d3] => { results := [.lit (.bool false)], args := [d1, d2, d3] }
  | _ => none }
def SolveFirstWrongFalsely : Prop := solveFirstRow.holds Tryz.pinned (OpenSpec.ofChange solveFirstWrong)

/-- 'cleanselaw29.SolveWays': WHATEVER THE INPUT: true; the input reads as it did. -/
def solveWaysSpec : ChangeSpec := { name := "solveWays", fn := fun _ => fun
  | [d1, d2, d3] => { results := [.lit (.bool true)], args := [d1, d2, d3] }
  | _ => none }
def solveWaysRow : OpenClaim := { program := "ythjifmfmaiagoaagreatdoor", sum := "ff2eae307d7e711e9c30c2b334942542a7a91a7c1a0376d0b754373c1a2c70aa", func := "cleanse/cleanselaw29.SolveWays", spec := "solveWays", unfollowed := true, recurses := true, named := ["internal/strconv.uint64pow10", "math/bits.deBruijn32tab", "math/bits.deBruijn64tab"], apart := false, laid := [("math/bits.deBruijn32tab", laid_math_bits_deBruijn32tab), ("math/bits.deBruijn64tab", laid_math_bits_deBruijn64tab), ("internal/strconv.uint64pow10", laid_internal_strconv_uint64pow10)] }
def SolveWaysSaid : Prop := solveWaysRow.holds Tryz.pinned (OpenSpec.ofChange solveWaysSpec)

/-- ITS FALSE NEIGHBOUR: 'it returns false'. Refute it at one input. -/
def solveWaysWrong : ChangeSpec := { name := "solveWays", fn := fun _ => fun
  | [d1, d2, d3] => { results := [.lit (.bool false)], args := [d1, d2, d3] }
  | _ => none }
def SolveWaysWrongFalsely : Prop := solveWaysRow.holds Tryz.pinned (OpenSpec.ofChange solveWaysWrong)

/-- 'cleanselaw29.SolveErrors': WHATEVER THE INPUT: true; the input reads as it did. -/
def solveErrorsSpec : ChangeSpec := { name := "solveErrors", fn := fun _ => fun
  | [d1, d2, d3] => { results := [.lit (.bool true)], args := [d1, d2, d3] }
  | _ => none }
def solveErrorsRow : OpenClaim := { program := "ythjifmfmaiagoaagreatdoor", sum := "ff2eae307d7e711e9c30c2b334942542a7a91a7c1a0376d0b754373c1a2c70aa", func := "cleanse/cleanselaw29.SolveErrors", spec := "solveErrors", unfollowed := true, recurses := true, named := ["internal/strconv.uint64pow10", "math/bits.deBruijn32tab", "math/bits.deBruijn64tab"], apart := false, laid := [("math/bits.deBruijn32tab", laid_math_bits_deBruijn32tab), ("math/bits.deBruijn64tab", laid_math_bits_deBruijn64tab), ("internal/strconv.uint64pow10", laid_internal_strconv_uint64pow10)] }
def SolveErrorsSaid : Prop := solveErrorsRow.holds Tryz.pinned (OpenSpec.ofChange solveErrorsSpec)

/-- ITS FALSE NEIGHBOUR: 'it returns false'. Refute it at one input. -/
def solveErrorsWrong : ChangeSpec := { name := "solveErrors", fn := fun _ => fun
  | [d1, d2, d3] => { results := [.lit (.bool false)], args := [d1, d2, d3] }
  | _ => none }
def SolveErrorsWrongFalsely : Prop := solveErrorsRow.holds Tryz.pinned (OpenSpec.ofChange solveErrorsWrong)

/-- 'cleanselaw29.SolveParts': WHATEVER THE INPUT: true; the input reads as it did. -/
def solvePartsSpec : ChangeSpec := { name := "solveParts", fn := fun _ => fun
  | [d1, d2] => { results := [.lit (.bool true)], args := [d1, d2] }
  | _ => none }
def solvePartsRow : OpenClaim := { program := "ythjifmfmaiagoaagreatdoor", sum := "ff2eae307d7e711e9c30c2b334942542a7a91a7c1a0376d0b754373c1a2c70aa", func := "cleanse/cleanselaw29.SolveParts", spec := "solveParts", unfollowed := true, recurses := true, named := ["internal/strconv.uint64pow10", "math/bits.deBruijn32tab", "math/bits.deBruijn64tab"], apart := false, laid := [("math/bits.deBruijn32tab", laid_math_bits_deBruijn32tab), ("math/bits.deBruijn64tab", laid_math_bits_deBruijn64tab), ("internal/strconv.uint64pow10", laid_internal_strconv_uint64pow10)] }
def SolvePartsSaid : Prop := solvePartsRow.holds Tryz.pinned (OpenSpec.ofChange solvePartsSpec)

/-- ITS FALSE NEIGHBOUR: 'it returns false'. Refute it at one input. -/
def solvePartsWrong : ChangeSpec := { name := "solveParts", fn := fun _ => fun
  | [d1, d2] => { results := [.lit (.bool false)], args := [d1, d2] }
  | _ => none }
def SolvePartsWrongFalsely : Prop := solvePartsRow.holds Tryz.pinned (OpenSpec.ofChange solvePartsWrong)

/-- 'cleanselaw29.SolveVerdicts': WHATEVER THE INPUT: true; the input reads as it did. -/
def solveVerdictsSpec : ChangeSpec := { name := "solveVerdicts", fn := fun _ => fun
  | [d1, d2] => { results := [.lit (.bool true)], args := [d1, d2] }
  | _ => none }
def solveVerdictsRow : OpenClaim := { program := "ythjifmfmaiagoaagreatdoor", sum := "ff2eae307d7e711e9c30c2b334942542a7a91a7c1a0376d0b754373c1a2c70aa", func := "cleanse/cleanselaw29.SolveVerdicts", spec := "solveVerdicts", unfollowed := true, recurses := true, named := ["internal/strconv.uint64pow10", "math/bits.deBruijn32tab", "math/bits.deBruijn64tab"], apart := false, laid := [("math/bits.deBruijn32tab", laid_math_bits_deBruijn32tab), ("math/bits.deBruijn64tab", laid_math_bits_deBruijn64tab), ("internal/strconv.uint64pow10", laid_internal_strconv_uint64pow10)] }
def SolveVerdictsSaid : Prop := solveVerdictsRow.holds Tryz.pinned (OpenSpec.ofChange solveVerdictsSpec)

/-- ITS FALSE NEIGHBOUR: 'it returns false'. Refute it at one input. -/
def solveVerdictsWrong : ChangeSpec := { name := "solveVerdicts", fn := fun _ => fun
  | [d1, d2] => { results := [.lit (.bool false)], args := [d1, d2] }
  | _ => none }
def SolveVerdictsWrongFalsely : Prop := solveVerdictsRow.holds Tryz.pinned (OpenSpec.ofChange solveVerdictsWrong)

/-- 'cleanselaw32.BoundSolve': WHATEVER THE INPUT: true; the input reads as it did. -/
def boundSolveSpec : ChangeSpec := { name := "boundSolve", fn := fun _ => fun
  | [d1, d2] => { results := [.lit (.bool true)], args := [d1, d2] }
  | _ => none }
def boundSolveRow : OpenClaim := { program := "ythjifmfmaiagoaagreatdoor", sum := "ff2eae307d7e711e9c30c2b334942542a7a91a7c1a0376d0b754373c1a2c70aa", func := "cleanse/cleanselaw32.BoundSolve", spec := "boundSolve", unfollowed := true, recurses := true, named := ["internal/strconv.uint64pow10", "math/bits.deBruijn32tab", "math/bits.deBruijn64tab"], apart := false, laid := [("math/bits.deBruijn32tab", laid_math_bits_deBruijn32tab), ("math/bits.deBruijn64tab", laid_math_bits_deBruijn64tab), ("internal/strconv.uint64pow10", laid_internal_strconv_uint64pow10)] }
def BoundSolveSaid : Prop := boundSolveRow.holds Tryz.pinned (OpenSpec.ofChange boundSolveSpec)

/-- ITS FALSE NEIGHBOUR: 'it returns false'. Refute it at one input. -/
def boundSolveWrong : ChangeSpec := { name := "boundSolve", fn := fun _ => fun
  | [d1, d2] => { results := [.lit (.bool false)], args := [d1, d2] }
  | _ => none }
def BoundSolveWrongFalsely : Prop := boundSolveRow.holds Tryz.pinned (OpenSpec.ofChange boundSolveWrong)

/- THE SECOND FORM. 'bulk': how many values and letters a reading holds, each counted each time it is reached (what is shared counts as often as it is met; a slice's spare places count too). A statement '..UptoSaid' is the law's where the arguments, and the package variables that the reading takes, are together of bulk at most 1048576: NARROWER than '..Said'. Prove '..Said' where nothing that the law and all that it calls make is longer than what came in: it says more and counts as full. Else prove '..UptoSaid'. A law counts once. -/
mutual
def uptoBulk {H : Type} : DataW H → Nat
  | .lit (.string bytes) => bytes.length + 1
  | .lit _ => 1
  | .nil => 1
  | .ptr d => uptoBulk d + 1
  | .slice elems spare => uptoBulkAll elems + uptoBulkAll spare + 1
  | .agg parts => uptoBulkAll parts + 1
  | .iface _ d => uptoBulk d + 1
  | .map entries => uptoBulkEntries entries + 1
  | .held _ => 1
def uptoBulkAll {H : Type} : List (DataW H) → Nat
  | [] => 0
  | d :: r => uptoBulk d + uptoBulkAll r
def uptoBulkEntries {H : Type} : List (Lit × DataW H) → Nat
  | [] => 0
  | x :: r => uptoBulkEntry x + uptoBulkEntries r
def uptoBulkEntry {H : Type} : Lit × DataW H → Nat
  | (.string bytes, d) => bytes.length + uptoBulk d + 1
  | (_, d) => uptoBulk d + 1
 end
def uptoSmall : (H : Type) → List (DataW H) → Bool := fun _ ds => decide (uptoBulkAll ds ≤ 1048576)
def OpenSpec.upto (s : _root_.Go.ChangeSpec) : _root_.Go.OpenSpec := { _root_.Go.OpenSpec.ofChange s with cond := some uptoSmall }

/-- 'cleanselaw32.BoundMatchesReference', WHERE WHAT IT READS IS OF BULK AT MOST 1048576: true; the input reads as it did. -/
def boundMatchesReferenceUptoRow : OpenClaim := { program := "ythjifmfmaiagoaagreatdoor", sum := "ff2eae307d7e711e9c30c2b334942542a7a91a7c1a0376d0b754373c1a2c70aa", func := "cleanse/cleanselaw32.BoundMatchesReference", spec := "boundMatchesReference", unfollowed := true, recurses := true, named := ["internal/strconv.uint64pow10", "math/bits.deBruijn32tab", "math/bits.deBruijn64tab"], apart := false, laid := [("math/bits.deBruijn32tab", laid_math_bits_deBruijn32tab), ("math/bits.deBruijn64tab", laid_math_bits_deBruijn64tab), ("internal/strconv.uint64pow10", laid_internal_strconv_uint64pow10)], narrowed := true }
def BoundMatchesReferenceUptoSaid : Prop := boundMatchesReferenceUptoRow.holds Tryz.pinned (OpenSpec.upto boundMatchesReferenceSpec)

/-- 'cleanselaw30.ProofMatchesReference', WHERE WHAT IT READS IS OF BULK AT MOST 1048576: true; the input reads as it did. -/
def proofMatchesReferenceUptoRow : OpenClaim := { program := "ythjifmfmaiagoaagreatdoor", sum := "ff2eae307d7e711e9c30c2b334942542a7a91a7c1a0376d0b754373c1a2c70aa", func := "cleanse/cleanselaw30.ProofMatchesReference", spec := "proofMatchesReference", unfollowed := true, recurses := true, named := ["internal/strconv.uint64pow10", "math/bits.deBruijn32tab", "math/bits.deBruijn64tab"], apart := false, laid := [("math/bits.deBruijn32tab", laid_math_bits_deBruijn32tab), ("math/bits.deBruijn64tab", laid_math_bits_deBruijn64tab), ("internal/strconv.uint64pow10", laid_internal_strconv_uint64pow10)], narrowed := true }
def ProofMatchesReferenceUptoSaid : Prop := proofMatchesReferenceUptoRow.holds Tryz.pinned (OpenSpec.upto proofMatchesReferenceSpec)

/-- 'cleanselaw30.ProofSound', WHERE WHAT IT READS IS OF BULK AT MOST 1048576: true; the input reads as it did. -/
def proofSoundUptoRow : OpenClaim := { program := "ythjifmfmaiagoaagreatdoor", sum := "ff2eae307d7e711e9c30c2b334942542a7a91a7c1a0376d0b754373c1a2c70aa", func := "cleanse/cleanselaw30.ProofSound", spec := "proofSound", unfollowed := true, recurses := true, named := ["internal/strconv.uint64pow10", "math/bits.deBruijn32tab", "math/bits.deBruijn64tab"], apart := false, laid := [("math/bits.deBruijn32tab", laid_math_bits_deBruijn32tab), ("math/bits.deBruijn64tab", laid_math_bits_deBruijn64tab), ("internal/strconv.uint64pow10", laid_internal_strconv_uint64pow10)], narrowed := true }
def ProofSoundUptoSaid : Prop := proofSoundUptoRow.holds Tryz.pinned (OpenSpec.upto proofSoundSpec)

/-- 'cleanselaw30.ProofComplete', WHERE WHAT IT READS IS OF BULK AT MOST 1048576: true; the input reads as it did. -/
def proofCompleteUptoRow : OpenClaim := { program := "ythjifmfmaiagoaagreatdoor", sum := "ff2eae307d7e711e9c30c2b334942542a7a91a7c1a0376d0b754373c1a2c70aa", func := "cleanse/cleanselaw30.ProofComplete", spec := "proofComplete", unfollowed := true, recurses := true, named := ["internal/strconv.uint64pow10", "math/bits.deBruijn32tab", "math/bits.deBruijn64tab"], apart := false, laid := [("math/bits.deBruijn32tab", laid_math_bits_deBruijn32tab), ("math/bits.deBruijn64tab", laid_math_bits_deBruijn64tab), ("internal/strconv.uint64pow10", laid_internal_strconv_uint64pow10)], narrowed := true }
def ProofCompleteUptoSaid : Prop := proofCompleteUptoRow.holds Tryz.pinned (OpenSpec.upto proofCompleteSpec)

/-- 'cleanselaw30.ProofClaims', WHERE WHAT IT READS IS OF BULK AT MOST 1048576: true; the input reads as it did. -/
def proofClaimsUptoRow : OpenClaim := { program := "ythjifmfmaiagoaagreatdoor", sum := "ff2eae307d7e711e9c30c2b334942542a7a91a7c1a0376d0b754373c1a2c70aa", func := "cleanse/cleanselaw30.ProofClaims", spec := "proofClaims", unfollowed := true, recurses := true, named := ["internal/strconv.uint64pow10", "math/bits.deBruijn32tab", "math/bits.deBruijn64tab"], apart := false, laid := [("math/bits.deBruijn32tab", laid_math_bits_deBruijn32tab), ("math/bits.deBruijn64tab", laid_math_bits_deBruijn64tab), ("internal/strconv.uint64pow10", laid_internal_strconv_uint64pow10)], narrowed := true }
def ProofClaimsUptoSaid : Prop := proofClaimsUptoRow.holds Tryz.pinned (OpenSpec.upto proofClaimsSpec)

/-- 'cleanselaw30.ProofMonotone', WHERE WHAT IT READS IS OF BULK AT MOST 1048576: true; the input reads as it did. -/
def proofMonotoneUptoRow : OpenClaim := { program := "ythjifmfmaiagoaagreatdoor", sum := "ff2eae307d7e711e9c30c2b334942542a7a91a7c1a0376d0b754373c1a2c70aa", func := "cleanse/cleanselaw30.ProofMonotone", spec := "proofMonotone", unfollowed := true, recurses := true, named := ["internal/strconv.uint64pow10", "math/bits.deBruijn32tab", "math/bits.deBruijn64tab"], apart := false, laid := [("math/bits.deBruijn32tab", laid_math_bits_deBruijn32tab), ("math/bits.deBruijn64tab", laid_math_bits_deBruijn64tab), ("internal/strconv.uint64pow10", laid_internal_strconv_uint64pow10)], narrowed := true }
def ProofMonotoneUptoSaid : Prop := proofMonotoneUptoRow.holds Tryz.pinned (OpenSpec.upto proofMonotoneSpec)

/-- 'cleanselaw30.ProofCut', WHERE WHAT IT READS IS OF BULK AT MOST 1048576: true; the input reads as it did. -/
def proofCutUptoRow : OpenClaim := { program := "ythjifmfmaiagoaagreatdoor", sum := "ff2eae307d7e711e9c30c2b334942542a7a91a7c1a0376d0b754373c1a2c70aa", func := "cleanse/cleanselaw30.ProofCut", spec := "proofCut", unfollowed := true, recurses := true, named := ["internal/strconv.uint64pow10", "math/bits.deBruijn32tab", "math/bits.deBruijn64tab"], apart := false, laid := [("math/bits.deBruijn32tab", laid_math_bits_deBruijn32tab), ("math/bits.deBruijn64tab", laid_math_bits_deBruijn64tab), ("internal/strconv.uint64pow10", laid_internal_strconv_uint64pow10)], narrowed := true }
def ProofCutUptoSaid : Prop := proofCutUptoRow.holds Tryz.pinned (OpenSpec.upto proofCutSpec)

/-- 'cleanselaw32.BoundParts', WHERE WHAT IT READS IS OF BULK AT MOST 1048576: true; the input reads as it did. -/
def boundPartsUptoRow : OpenClaim := { program := "ythjifmfmaiagoaagreatdoor", sum := "ff2eae307d7e711e9c30c2b334942542a7a91a7c1a0376d0b754373c1a2c70aa", func := "cleanse/cleanselaw32.BoundParts", spec := "boundParts", unfollowed := true, recurses := true, named := ["internal/strconv.uint64pow10", "math/bits.deBruijn32tab", "math/bits.deBruijn64tab"], apart := false, laid := [("math/bits.deBruijn32tab", laid_math_bits_deBruijn32tab), ("math/bits.deBruijn64tab", laid_math_bits_deBruijn64tab), ("internal/strconv.uint64pow10", laid_internal_strconv_uint64pow10)], narrowed := true }
def BoundPartsUptoSaid : Prop := boundPartsUptoRow.holds Tryz.pinned (OpenSpec.upto boundPartsSpec)

/-- 'cleanselaw32.BoundTrue', WHERE WHAT IT READS IS OF BULK AT MOST 1048576: true; the input reads as it did. -/
def boundTrueUptoRow : OpenClaim := { program := "ythjifmfmaiagoaagreatdoor", sum := "ff2eae307d7e711e9c30c2b334942542a7a91a7c1a0376d0b754373c1a2c70aa", func := "cleanse/cleanselaw32.BoundTrue", spec := "boundTrue", unfollowed := true, recurses := true, named := ["internal/strconv.uint64pow10", "math/bits.deBruijn32tab", "math/bits.deBruijn64tab"], apart := false, laid := [("math/bits.deBruijn32tab", laid_math_bits_deBruijn32tab), ("math/bits.deBruijn64tab", laid_math_bits_deBruijn64tab), ("internal/strconv.uint64pow10", laid_internal_strconv_uint64pow10)], narrowed := true }
def BoundTrueUptoSaid : Prop := boundTrueUptoRow.holds Tryz.pinned (OpenSpec.upto boundTrueSpec)

/-- 'cleanselaw32.BoundWays', WHERE WHAT IT READS IS OF BULK AT MOST 1048576: true; the input reads as it did. -/
def boundWaysUptoRow : OpenClaim := { program := "ythjifmfmaiagoaagreatdoor", sum := "ff2eae307d7e711e9c30c2b334942542a7a91a7c1a0376d0b754373c1a2c70aa", func := "cleanse/cleanselaw32.BoundWays", spec := "boundWays", unfollowed := true, recurses := true, named := ["internal/strconv.uint64pow10", "math/bits.deBruijn32tab", "math/bits.deBruijn64tab"], apart := false, laid := [("math/bits.deBruijn32tab", laid_math_bits_deBruijn32tab), ("math/bits.deBruijn64tab", laid_math_bits_deBruijn64tab), ("internal/strconv.uint64pow10", laid_internal_strconv_uint64pow10)], narrowed := true }
def BoundWaysUptoSaid : Prop := boundWaysUptoRow.holds Tryz.pinned (OpenSpec.upto boundWaysSpec)

/-- 'cleanselaw32.BoundRange', WHERE WHAT IT READS IS OF BULK AT MOST 1048576: true; the input reads as it did. -/
def boundRangeUptoRow : OpenClaim := { program := "ythjifmfmaiagoaagreatdoor", sum := "ff2eae307d7e711e9c30c2b334942542a7a91a7c1a0376d0b754373c1a2c70aa", func := "cleanse/cleanselaw32.BoundRange", spec := "boundRange", unfollowed := true, recurses := true, named := ["internal/strconv.uint64pow10", "math/bits.deBruijn32tab", "math/bits.deBruijn64tab"], apart := false, laid := [("math/bits.deBruijn32tab", laid_math_bits_deBruijn32tab), ("math/bits.deBruijn64tab", laid_math_bits_deBruijn64tab), ("internal/strconv.uint64pow10", laid_internal_strconv_uint64pow10)], narrowed := true }
def BoundRangeUptoSaid : Prop := boundRangeUptoRow.holds Tryz.pinned (OpenSpec.upto boundRangeSpec)

/-- 'cleanselaw32.BoundBlocks', WHERE WHAT IT READS IS OF BULK AT MOST 1048576: true; the input reads as it did. -/
def boundBlocksUptoRow : OpenClaim := { program := "ythjifmfmaiagoaagreatdoor", sum := "ff2eae307d7e711e9c30c2b334942542a7a91a7c1a0376d0b754373c1a2c70aa", func := "cleanse/cleanselaw32.BoundBlocks", spec := "boundBlocks", unfollowed := true, recurses := true, named := ["internal/strconv.uint64pow10", "math/bits.deBruijn32tab", "math/bits.deBruijn64tab"], apart := false, laid := [("math/bits.deBruijn32tab", laid_math_bits_deBruijn32tab), ("math/bits.deBruijn64tab", laid_math_bits_deBruijn64tab), ("internal/strconv.uint64pow10", laid_internal_strconv_uint64pow10)], narrowed := true }
def BoundBlocksUptoSaid : Prop := boundBlocksUptoRow.holds Tryz.pinned (OpenSpec.upto boundBlocksSpec)

/-- 'cleanselaw29.SolveMatchesReference', WHERE WHAT IT READS IS OF BULK AT MOST 1048576: true; the input reads as it did. -/
def solveMatchesReferenceUptoRow : OpenClaim := { program := "ythjifmfmaiagoaagreatdoor", sum := "ff2eae307d7e711e9c30c2b334942542a7a91a7c1a0376d0b754373c1a2c70aa", func := "cleanse/cleanselaw29.SolveMatchesReference", spec := "solveMatchesReference", unfollowed := true, recurses := true, named := ["internal/strconv.uint64pow10", "math/bits.deBruijn32tab", "math/bits.deBruijn64tab"], apart := false, laid := [("math/bits.deBruijn32tab", laid_math_bits_deBruijn32tab), ("math/bits.deBruijn64tab", laid_math_bits_deBruijn64tab), ("internal/strconv.uint64pow10", laid_internal_strconv_uint64pow10)], narrowed := true }
def SolveMatchesReferenceUptoSaid : Prop := solveMatchesReferenceUptoRow.holds Tryz.pinned (OpenSpec.upto solveMatchesReferenceSpec)

/-- 'cleanselaw29.SolveProves', WHERE WHAT IT READS IS OF BULK AT MOST 1048576: true; the input reads as it did. -/
def solveProvesUptoRow : OpenClaim := { program := "ythjifmfmaiagoaagreatdoor", sum := "ff2eae307d7e711e9c30c2b334942542a7a91a7c1a0376d0b754373c1a2c70aa", func := "cleanse/cleanselaw29.SolveProves", spec := "solveProves", unfollowed := true, recurses := true, named := ["internal/strconv.uint64pow10", "math/bits.deBruijn32tab", "math/bits.deBruijn64tab"], apart := false, laid := [("math/bits.deBruijn32tab", laid_math_bits_deBruijn32tab), ("math/bits.deBruijn64tab", laid_math_bits_deBruijn64tab), ("internal/strconv.uint64pow10", laid_internal_strconv_uint64pow10)], narrowed := true }
def SolveProvesUptoSaid : Prop := solveProvesUptoRow.holds Tryz.pinned (OpenSpec.upto solveProvesSpec)

/-- 'cleanselaw29.SolveFirst', WHERE WHAT IT READS IS OF BULK AT MOST 1048576: true; the input reads as it did. -/
def solveFirstUptoRow : OpenClaim := { program := "ythjifmfmaiagoaagreatdoor", sum := "ff2eae307d7e711e9c30c2b334942542a7a91a7c1a0376d0b754373c1a2c70aa", func := "cleanse/cleanselaw29.SolveFirst", spec := "solveFirst", unfollowed := true, recurses := true, named := ["internal/strconv.uint64pow10", "math/bits.deBruijn32tab", "math/bits.deBruijn64tab"], apart := false, laid := [("math/bits.deBruijn32tab", laid_math_bits_deBruijn32tab), ("math/bits.deBruijn64tab", laid_math_bits_deBruijn64tab), ("internal/strconv.uint64pow10", laid_internal_strconv_uint64pow10)], narrowed := true }
def SolveFirstUptoSaid : Prop := solveFirstUptoRow.holds Tryz.pinned (OpenSpec.upto solveFirstSpec)

/-- 'cleanselaw29.SolveWays', WHERE WHAT IT READS IS OF BULK AT MOST 1048576: true; the input reads as it did. -/
def solveWaysUptoRow : OpenClaim := { program := "ythjifmfmaiagoaagreatdoor", sum := "ff2eae307d7e711e9c30c2b334942542a7a91a7c1a0376d0b754373c1a2c70aa", func := "cleanse/cleanselaw29.SolveWays", spec := "solveWays", unfollowed := true, recurses := true, named := ["internal/strconv.uint64pow10", "math/bits.deBruijn32tab", "math/bits.deBruijn64tab"], apart := false, laid := [("math/bits.deBruijn32tab", laid_math_bits_deBruijn32tab), ("math/bits.deBruijn64tab", laid_math_bits_deBruijn64tab), ("internal/strconv.uint64pow10", laid_internal_strconv_uint64pow10)], narrowed := true }
def SolveWaysUptoSaid : Prop := solveWaysUptoRow.holds Tryz.pinned (OpenSpec.upto solveWaysSpec)

/-- 'cleanselaw29.SolveErrors', WHERE WHAT IT READS IS OF BULK AT MOST 1048576: true; the input reads as it did. -/
def solveErrorsUptoRow : OpenClaim := { program := "ythjifmfmaiagoaagreatdoor", sum := "ff2eae307d7e711e9c30c2b334942542a7a91a7c1a0376d0b754373c1a2c70aa", func := "cleanse/cleanselaw29.SolveErrors", spec := "solveErrors", unfollowed := true, recurses := true, named := ["internal/strconv.uint64pow10", "math/bits.deBruijn32tab", "math/bits.deBruijn64tab"], apart := false, laid := [("math/bits.deBruijn32tab", laid_math_bits_deBruijn32tab), ("math/bits.deBruijn64tab", laid_math_bits_deBruijn64tab), ("internal/strconv.uint64pow10", laid_internal_strconv_uint64pow10)], narrowed := true }
def SolveErrorsUptoSaid : Prop := solveErrorsUptoRow.holds Tryz.pinned (OpenSpec.upto solveErrorsSpec)

/-- 'cleanselaw29.SolveParts', WHERE WHAT IT READS IS OF BULK AT MOST 1048576: true; the input reads as it did. -/
def solvePartsUptoRow : OpenClaim := { program := "ythjifmfmaiagoaagreatdoor", sum := "ff2eae307d7e711e9c30c2b334942542a7a91a7c1a0376d0b754373c1a2c70aa", func := "cleanse/cleanselaw29.SolveParts", spec := "solveParts", unfollowed := true, recurses := true, named := ["internal/strconv.uint64pow10", "math/bits.deBruijn32tab", "math/bits.deBruijn64tab"], apart := false, laid := [("math/bits.deBruijn32tab", laid_math_bits_deBruijn32tab), ("math/bits.deBruijn64tab", laid_math_bits_deBruijn64tab), ("internal/strconv.uint64pow10", laid_internal_strconv_uint64pow10)], narrowed := true }
def SolvePartsUptoSaid : Prop := solvePartsUptoRow.holds Tryz.pinned (OpenSpec.upto solvePartsSpec)

/-- 'cleanselaw29.SolveVerdicts', WHERE WHAT IT READS IS OF BULK AT MOST 1048576: true; the input reads as it did. -/
def solveVerdictsUptoRow : OpenClaim := { program := "ythjifmfmaiagoaagreatdoor", sum := "ff2eae307d7e711e9c30c2b334942542a7a91a7c1a0376d0b754373c1a2c70aa", func := "cleanse/cleanselaw29.SolveVerdicts", spec := "solveVerdicts", unfollowed := true, recurses := true, named := ["internal/strconv.uint64pow10", "math/bits.deBruijn32tab", "math/bits.deBruijn64tab"], apart := false, laid := [("math/bits.deBruijn32tab", laid_math_bits_deBruijn32tab), ("math/bits.deBruijn64tab", laid_math_bits_deBruijn64tab), ("internal/strconv.uint64pow10", laid_internal_strconv_uint64pow10)], narrowed := true }
def SolveVerdictsUptoSaid : Prop := solveVerdictsUptoRow.holds Tryz.pinned (OpenSpec.upto solveVerdictsSpec)

/-- 'cleanselaw32.BoundSolve', WHERE WHAT IT READS IS OF BULK AT MOST 1048576: true; the input reads as it did. -/
def boundSolveUptoRow : OpenClaim := { program := "ythjifmfmaiagoaagreatdoor", sum := "ff2eae307d7e711e9c30c2b334942542a7a91a7c1a0376d0b754373c1a2c70aa", func := "cleanse/cleanselaw32.BoundSolve", spec := "boundSolve", unfollowed := true, recurses := true, named := ["internal/strconv.uint64pow10", "math/bits.deBruijn32tab", "math/bits.deBruijn64tab"], apart := false, laid := [("math/bits.deBruijn32tab", laid_math_bits_deBruijn32tab), ("math/bits.deBruijn64tab", laid_math_bits_deBruijn64tab), ("internal/strconv.uint64pow10", laid_internal_strconv_uint64pow10)], narrowed := true }
def BoundSolveUptoSaid : Prop := boundSolveUptoRow.holds Tryz.pinned (OpenSpec.upto boundSolveSpec)

end Rows
end Go.Proofs.YthjifmfmaiagoaaGreatDoor

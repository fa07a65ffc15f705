/-
  DERIVED. GIVEN WITH THE SEED: THE CARDS: each row of YthjifmfmaiagoaaGreatDoorRows.lean that lists a variable, with what it lists TIED to the program's text (the seventh form; the later family's looks); each row that meets fmt, with fmt's text TOLD by the authors' own Lean function (tested against real Go, not proved from fmt's source: count such statements apart). THE CARD IS WHAT COUNTS. Prove the row's statement (the work); the ties are given (YthjifmfmaiagoaaGreatDoorTie.lean); close each card by the builder's one call (the guide's Derived/Test/ToyasCard.lean, 'card_holds'). Laid BY PROGRAM, IN A SANDBOX (cutbox-door.mjs). By AI agents, Wed Nov 11 2026. No macro, syntax, notation, axiom, sorry.
-/
import Derived.Test.YthjifmfmaiagoaaGreatDoorRows
import GoSem.ClaimSeven
namespace Go.Proofs.YthjifmfmaiagoaaGreatDoor
namespace Rows

/-- THE TIED CARD OF 'cleanselaw32.BoundMatchesReference'. -/
def boundMatchesReferenceCard : Claim7 := { stood := { row := boundMatchesReferenceRow, standIns := [], harness := (true, "41b9ce2e03f5c797346d13d89d85ddc7ab9bee3d6ed5d7449db14be39b6a6600"), looks := true }, kinds := [], alts := [], laidByText := true, laidKinds := [.data, .data, .data], laidTests := true, laidLooks := .later }
def BoundMatchesReferenceCardSaid : Prop := Claim7.holds Tryz.pinned (.plain (OpenSpec.ofChange boundMatchesReferenceSpec)) boundMatchesReferenceCard

/-- THE TIED CARD OF 'cleanselaw30.ProofMatchesReference'. -/
def proofMatchesReferenceCard : Claim7 := { stood := { row := proofMatchesReferenceRow, standIns := [], harness := (true, "41b9ce2e03f5c797346d13d89d85ddc7ab9bee3d6ed5d7449db14be39b6a6600"), looks := true }, kinds := [], alts := [], laidByText := true, laidKinds := [.data, .data, .data], laidTests := true, laidLooks := .later }
def ProofMatchesReferenceCardSaid : Prop := Claim7.holds Tryz.pinned (.plain (OpenSpec.ofChange proofMatchesReferenceSpec)) proofMatchesReferenceCard

/-- THE TIED CARD OF 'cleanselaw30.ProofSound'. -/
def proofSoundCard : Claim7 := { stood := { row := proofSoundRow, standIns := [], harness := (true, "41b9ce2e03f5c797346d13d89d85ddc7ab9bee3d6ed5d7449db14be39b6a6600"), looks := true }, kinds := [], alts := [], laidByText := true, laidKinds := [.data, .data, .data], laidTests := true, laidLooks := .later }
def ProofSoundCardSaid : Prop := Claim7.holds Tryz.pinned (.plain (OpenSpec.ofChange proofSoundSpec)) proofSoundCard

/-- THE TIED CARD OF 'cleanselaw30.ProofComplete'. -/
def proofCompleteCard : Claim7 := { stood := { row := proofCompleteRow, standIns := [], harness := (true, "41b9ce2e03f5c797346d13d89d85ddc7ab9bee3d6ed5d7449db14be39b6a6600"), looks := true }, kinds := [], alts := [], laidByText := true, laidKinds := [.data, .data, .data], laidTests := true, laidLooks := .later }
def ProofCompleteCardSaid : Prop := Claim7.holds Tryz.pinned (.plain (OpenSpec.ofChange proofCompleteSpec)) proofCompleteCard

/-- THE TIED CARD OF 'cleanselaw30.ProofClaims'. -/
def proofClaimsCard : Claim7 := { stood := { row := proofClaimsRow, standIns := [], harness := (true, "41b9ce2e03f5c797346d13d89d85ddc7ab9bee3d6ed5d7449db14be39b6a6600"), looks := true }, kinds := [], alts := [], laidByText := true, laidKinds := [.data, .data, .data], laidTests := true, laidLooks := .later }
def ProofClaimsCardSaid : Prop := Claim7.holds Tryz.pinned (.plain (OpenSpec.ofChange proofClaimsSpec)) proofClaimsCard

/-- THE TIED CARD OF 'cleanselaw30.ProofMonotone'. -/
def proofMonotoneCard : Claim7 := { stood := { row := proofMonotoneRow, standIns := [], harness := (true, "41b9ce2e03f5c797346d13d89d85ddc7ab9bee3d6ed5d7449db14be39b6a6600"), looks := true }, kinds := [], alts := [], laidByText := true, laidKinds := [.data, .data, .data], laidTests := true, laidLooks := .later }
def ProofMonotoneCardSaid : Prop := Claim7.holds Tryz.pinned (.plain (OpenSpec.ofChange proofMonotoneSpec)) proofMonotoneCard

/-- THE TIED CARD OF 'cleanselaw30.ProofCut'. -/
def proofCutCard : Claim7 := { stood := { row := proofCutRow, standIns := [], harness := (true, "41b9ce2e03f5c797346d13d89d85ddc7ab9bee3d6ed5d7449db14be39b6a6600"), looks := true }, kinds := [], alts := [], laidByText := true, laidKinds := [.data, .data, .data], laidTests := true, laidLooks := .later }
def ProofCutCardSaid : Prop := Claim7.holds Tryz.pinned (.plain (OpenSpec.ofChange proofCutSpec)) proofCutCard

/-- THE TIED CARD OF 'cleanselaw32.BoundParts'. -/
def boundPartsCard : Claim7 := { stood := { row := boundPartsRow, standIns := [], harness := (true, "41b9ce2e03f5c797346d13d89d85ddc7ab9bee3d6ed5d7449db14be39b6a6600"), looks := true }, kinds := [], alts := [], laidByText := true, laidKinds := [.data, .data, .data], laidTests := true, laidLooks := .later }
def BoundPartsCardSaid : Prop := Claim7.holds Tryz.pinned (.plain (OpenSpec.ofChange boundPartsSpec)) boundPartsCard

/-- THE TIED CARD OF 'cleanselaw32.BoundTrue'. -/
def boundTrueCard : Claim7 := { stood := { row := boundTrueRow, standIns := [], harness := (true, "41b9ce2e03f5c797346d13d89d85ddc7ab9bee3d6ed5d7449db14be39b6a6600"), looks := true }, kinds := [], alts := [], laidByText := true, laidKinds := [.data, .data, .data], laidTests := true, laidLooks := .later }
def BoundTrueCardSaid : Prop := Claim7.holds Tryz.pinned (.plain (OpenSpec.ofChange boundTrueSpec)) boundTrueCard

/-- THE TIED CARD OF 'cleanselaw32.BoundWays'. -/
def boundWaysCard : Claim7 := { stood := { row := boundWaysRow, standIns := [], harness := (true, "41b9ce2e03f5c797346d13d89d85ddc7ab9bee3d6ed5d7449db14be39b6a6600"), looks := true }, kinds := [], alts := [], laidByText := true, laidKinds := [.data, .data, .data], laidTests := true, laidLooks := .later }
def BoundWaysCardSaid : Prop := Claim7.holds Tryz.pinned (.plain (OpenSpec.ofChange boundWaysSpec)) boundWaysCard

/-- THE TIED CARD OF 'cleanselaw32.BoundRange'. -/
def boundRangeCard : Claim7 := { stood := { row := boundRangeRow, standIns := [], harness := (true, "41b9ce2e03f5c797346d13d89d85ddc7ab9bee3d6ed5d7449db14be39b6a6600"), looks := true }, kinds := [], alts := [], laidByText := true, laidKinds := [.data, .data, .data], laidTests := true, laidLooks := .later }
def BoundRangeCardSaid : Prop := Claim7.holds Tryz.pinned (.plain (OpenSpec.ofChange boundRangeSpec)) boundRangeCard

/-- THE TIED CARD OF 'cleanselaw32.BoundBlocks'. -/
def boundBlocksCard : Claim7 := { stood := { row := boundBlocksRow, standIns := [], harness := (true, "41b9ce2e03f5c797346d13d89d85ddc7ab9bee3d6ed5d7449db14be39b6a6600"), looks := true }, kinds := [], alts := [], laidByText := true, laidKinds := [.data, .data, .data], laidTests := true, laidLooks := .later }
def BoundBlocksCardSaid : Prop := Claim7.holds Tryz.pinned (.plain (OpenSpec.ofChange boundBlocksSpec)) boundBlocksCard

/-- THE TIED CARD OF 'cleanselaw29.SolveMatchesReference'. -/
def solveMatchesReferenceCard : Claim7 := { stood := { row := solveMatchesReferenceRow, standIns := [], harness := (true, "41b9ce2e03f5c797346d13d89d85ddc7ab9bee3d6ed5d7449db14be39b6a6600"), looks := true }, kinds := [], alts := [], laidByText := true, laidKinds := [.data, .data, .data], laidTests := true, laidLooks := .later }
def SolveMatchesReferenceCardSaid : Prop := Claim7.holds Tryz.pinned (.plain (OpenSpec.ofChange solveMatchesReferenceSpec)) solveMatchesReferenceCard

/-- THE TIED CARD OF 'cleanselaw29.SolveProves'. -/
def solveProvesCard : Claim7 := { stood := { row := solveProvesRow, standIns := [], harness := (true, "41b9ce2e03f5c797346d13d89d85ddc7ab9bee3d6ed5d7449db14be39b6a6600"), looks := true }, kinds := [], alts := [], laidByText := true, laidKinds := [.data, .data, .data], laidTests := true, laidLooks := .later }
def SolveProvesCardSaid : Prop := Claim7.holds Tryz.pinned (.plain (OpenSpec.ofChange solveProvesSpec)) solveProvesCard

/-- THE TIED CARD OF 'cleanselaw29.SolveFirst'. -/
def solveFirstCard : Claim7 := { stood := { row := solveFirstRow, standIns := [], harness := (true, "41b9ce2e03f5c797346d13d89d85ddc7ab9bee3d6ed5d7449db14be39b6a6600"), looks := true }, kinds := [], alts := [], laidByText := true, laidKinds := [.data, .data, .data], laidTests := true, laidLooks := .later }
def SolveFirstCardSaid : Prop := Claim7.holds Tryz.pinned (.plain (OpenSpec.ofChange solveFirstSpec)) solveFirstCard

/-- THE TIED CARD OF 'cleanselaw29.SolveWays'. -/
def solveWaysCard : Claim7 := { stood := { row := solveWaysRow, standIns := [], harness := (true, "41b9ce2e03f5c797346d13d89d85ddc7ab9bee3d6ed5d7449db14be39b6a6600"), looks := true }, kinds := [], alts := [], laidByText := true, laidKinds := [.data, .data, .data], laidTests := true, laidLooks := .later }
def SolveWaysCardSaid : Prop := Claim7.holds Tryz.pinned (.plain (OpenSpec.ofChange solveWaysSpec)) solveWaysCard

/-- THE TIED CARD OF 'cleanselaw29.SolveErrors'. -/
def solveErrorsCard : Claim7 := { stood := { row := solveErrorsRow, standIns := [], harness := (true, "41b9ce2e03f5c797346d13d89d85ddc7ab9bee3d6ed5d7449db14be39b6a6600"), looks := true }, kinds := [], alts := [], laidByText := true, laidKinds := [.data, .data, .data], laidTests := true, laidLooks := .later }
def SolveErrorsCardSaid : Prop := Claim7.holds Tryz.pinned (.plain (OpenSpec.ofChange solveErrorsSpec)) solveErrorsCard

/-- THE TIED CARD OF 'cleanselaw29.SolveParts'. -/
def solvePartsCard : Claim7 := { stood := { row := solvePartsRow, standIns := [], harness := (true, "41b9ce2e03f5c797346d13d89d85ddc7ab9bee3d6ed5d7449db14be39b6a6600"), looks := true }, kinds := [], alts := [], laidByText := true, laidKinds := [.data, .data, .data], laidTests := true, laidLooks := .later }
def SolvePartsCardSaid : Prop := Claim7.holds Tryz.pinned (.plain (OpenSpec.ofChange solvePartsSpec)) solvePartsCard

/-- THE TIED CARD OF 'cleanselaw29.SolveVerdicts'. -/
def solveVerdictsCard : Claim7 := { stood := { row := solveVerdictsRow, standIns := [], harness := (true, "41b9ce2e03f5c797346d13d89d85ddc7ab9bee3d6ed5d7449db14be39b6a6600"), looks := true }, kinds := [], alts := [], laidByText := true, laidKinds := [.data, .data, .data], laidTests := true, laidLooks := .later }
def SolveVerdictsCardSaid : Prop := Claim7.holds Tryz.pinned (.plain (OpenSpec.ofChange solveVerdictsSpec)) solveVerdictsCard

/-- THE TIED CARD OF 'cleanselaw32.BoundSolve'. -/
def boundSolveCard : Claim7 := { stood := { row := boundSolveRow, standIns := [], harness := (true, "41b9ce2e03f5c797346d13d89d85ddc7ab9bee3d6ed5d7449db14be39b6a6600"), looks := true }, kinds := [], alts := [], laidByText := true, laidKinds := [.data, .data, .data], laidTests := true, laidLooks := .later }
def BoundSolveCardSaid : Prop := Claim7.holds Tryz.pinned (.plain (OpenSpec.ofChange boundSolveSpec)) boundSolveCard

/-- THE SECOND FORM's CARD OF 'cleanselaw32.BoundMatchesReference'. -/
def boundMatchesReferenceUptoCard : Claim7 := { stood := { row := boundMatchesReferenceUptoRow, standIns := [], harness := (true, "41b9ce2e03f5c797346d13d89d85ddc7ab9bee3d6ed5d7449db14be39b6a6600"), looks := true }, kinds := [], alts := [], laidByText := true, laidKinds := [.data, .data, .data], laidTests := true, laidLooks := .later }
def BoundMatchesReferenceUptoCardSaid : Prop := Claim7.holds Tryz.pinned (.plain (OpenSpec.upto boundMatchesReferenceSpec)) boundMatchesReferenceUptoCard

/-- THE SECOND FORM's CARD OF 'cleanselaw30.ProofMatchesReference'. -/
def proofMatchesReferenceUptoCard : Claim7 := { stood := { row := proofMatchesReferenceUptoRow, standIns := [], harness := (true, "41b9ce2e03f5c797346d13d89d85ddc7ab9bee3d6ed5d7449db14be39b6a6600"), looks := true }, kinds := [], alts := [], laidByText := true, laidKinds := [.data, .data, .data], laidTests := true, laidLooks := .later }
def ProofMatchesReferenceUptoCardSaid : Prop := Claim7.holds Tryz.pinned (.plain (OpenSpec.upto proofMatchesReferenceSpec)) proofMatchesReferenceUptoCard

/-- THE SECOND FORM's CARD OF 'cleanselaw30.ProofSound'. -/
def proofSoundUptoCard : Claim7 := { stood := { row := proofSoundUptoRow, standIns := [], harness := (true, "41b9ce2e03f5c797346d13d89d85ddc7ab9bee3d6ed5d7449db14be39b6a6600"), looks := true }, kinds := [], alts := [], laidByText := true, laidKinds := [.data, .data, .data], laidTests := true, laidLooks := .later }
def ProofSoundUptoCardSaid : Prop := Claim7.holds Tryz.pinned (.plain (OpenSpec.upto proofSoundSpec)) proofSoundUptoCard

/-- THE SECOND FORM's CARD OF 'cleanselaw30.ProofComplete'. -/
def proofCompleteUptoCard : Claim7 := { stood := { row := proofCompleteUptoRow, standIns := [], harness := (true, "41b9ce2e03f5c797346d13d89d85ddc7ab9bee3d6ed5d7449db14be39b6a6600"), looks := true }, kinds := [], alts := [], laidByText := true, laidKinds := [.data, .data, .data], laidTests := true, laidLooks := .later }
def ProofCompleteUptoCardSaid : Prop := Claim7.holds Tryz.pinned (.plain (OpenSpec.upto proofCompleteSpec)) proofCompleteUptoCard

/-- THE SECOND FORM's CARD OF 'cleanselaw30.ProofClaims'. -/
def proofClaimsUptoCard : Claim7 := { stood := { row := proofClaimsUptoRow, standIns := [], harness := (true, "41b9ce2e03f5c797346d13d89d85ddc7ab9bee3d6ed5d7449db14be39b6a6600"), looks := true }, kinds := [], alts := [], laidByText := true, laidKinds := [.data, .data, .data], laidTests := true, laidLooks := .later }
def ProofClaimsUptoCardSaid : Prop := Claim7.holds Tryz.pinned (.plain (OpenSpec.upto proofClaimsSpec)) proofClaimsUptoCard

/-- THE SECOND FORM's CARD OF 'cleanselaw30.ProofMonotone'. -/
def proofMonotoneUptoCard : Claim7 := { stood := { row := proofMonotoneUptoRow, standIns := [], harness := (true, "41b9ce2e03f5c797346d13d89d85ddc7ab9bee3d6ed5d7449db14be39b6a6600"), looks := true }, kinds := [], alts := [], laidByText := true, laidKinds := [.data, .data, .data], laidTests := true, laidLooks := .later }
def ProofMonotoneUptoCardSaid : Prop := Claim7.holds Tryz.pinned (.plain (OpenSpec.upto proofMonotoneSpec)) proofMonotoneUptoCard

/-- THE SECOND FORM's CARD OF 'cleanselaw30.ProofCut'. -/
def proofCutUptoCard : Claim7 := { stood := { row := proofCutUptoRow, standIns := [], harness := (true, "41b9ce2e03f5c797346d13d89d85ddc7ab9bee3d6ed5d7449db14be39b6a6600"), looks := true }, kinds := [], alts := [], laidByText := true, laidKinds := [.data, .data, .data], laidTests := true, laidLooks := .later }
def ProofCutUptoCardSaid : Prop := Claim7.holds Tryz.pinned (.plain (OpenSpec.upto proofCutSpec)) proofCutUptoCard

/-- THE SECOND FORM's CARD OF 'cleanselaw32.BoundParts'. -/
def boundPartsUptoCard : Claim7 := { stood := { row := boundPartsUptoRow, standIns := [], harness := (true, "41b9ce2e03f5c797346d13d89d85ddc7ab9bee3d6ed5d7449db14be39b6a6600"), looks := true }, kinds := [], alts := [], laidByText := true, laidKinds := [.data, .data, .data], laidTests := true, laidLooks := .later }
def BoundPartsUptoCardSaid : Prop := Claim7.holds Tryz.pinned (.plain (OpenSpec.upto boundPartsSpec)) boundPartsUptoCard

/-- THE SECOND FORM's CARD OF 'cleanselaw32.BoundTrue'. -/
def boundTrueUptoCard : Claim7 := { stood := { row := boundTrueUptoRow, standIns := [], harness := (true, "41b9ce2e03f5c797346d13d89d85ddc7ab9bee3d6ed5d7449db14be39b6a6600"), looks := true }, kinds := [], alts := [], laidByText := true, laidKinds := [.data, .data, .data], laidTests := true, laidLooks := .later }
def BoundTrueUptoCardSaid : Prop := Claim7.holds Tryz.pinned (.plain (OpenSpec.upto boundTrueSpec)) boundTrueUptoCard

/-- THE SECOND FORM's CARD OF 'cleanselaw32.BoundWays'. -/
def boundWaysUptoCard : Claim7 := { stood := { row := boundWaysUptoRow, standIns := [], harness := (true, "41b9ce2e03f5c797346d13d89d85ddc7ab9bee3d6ed5d7449db14be39b6a6600"), looks := true }, kinds := [], alts := [], laidByText := true, laidKinds := [.data, .data, .data], laidTests := true, laidLooks := .later }
def BoundWaysUptoCardSaid : Prop := Claim7.holds Tryz.pinned (.plain (OpenSpec.upto boundWaysSpec)) boundWaysUptoCard

/-- THE SECOND FORM's CARD OF 'cleanselaw32.BoundRange'. -/
def boundRangeUptoCard : Claim7 := { stood := { row := boundRangeUptoRow, standIns := [], harness := (true, "41b9ce2e03f5c797346d13d89d85ddc7ab9bee3d6ed5d7449db14be39b6a6600"), looks := true }, kinds := [], alts := [], laidByText := true, laidKinds := [.data, .data, .data], laidTests := true, laidLooks := .later }
def BoundRangeUptoCardSaid : Prop := Claim7.holds Tryz.pinned (.plain (OpenSpec.upto boundRangeSpec)) boundRangeUptoCard

/-- THE SECOND FORM's CARD OF 'cleanselaw32.BoundBlocks'. -/
def boundBlocksUptoCard : Claim7 := { stood := { row := boundBlocksUptoRow, standIns := [], harness := (true, "41b9ce2e03f5c797346d13d89d85ddc7ab9bee3d6ed5d7449db14be39b6a6600"), looks := true }, kinds := [], alts := [], laidByText := true, laidKinds := [.data, .data, .data], laidTests := true, laidLooks := .later }
def BoundBlocksUptoCardSaid : Prop := Claim7.holds Tryz.pinned (.plain (OpenSpec.upto boundBlocksSpec)) boundBlocksUptoCard

/-- THE SECOND FORM's CARD OF 'cleanselaw29.SolveMatchesReference'. -/
def solveMatchesReferenceUptoCard : Claim7 := { stood := { row := solveMatchesReferenceUptoRow, standIns := [], harness := (true, "41b9ce2e03f5c797346d13d89d85ddc7ab9bee3d6ed5d7449db14be39b6a6600"), looks := true }, kinds := [], alts := [], laidByText := true, laidKinds := [.data, .data, .data], laidTests := true, laidLooks := .later }
def SolveMatchesReferenceUptoCardSaid : Prop := Claim7.holds Tryz.pinned (.plain (OpenSpec.upto solveMatchesReferenceSpec)) solveMatchesReferenceUptoCard

/-- THE SECOND FORM's CARD OF 'cleanselaw29.SolveProves'. -/
def solveProvesUptoCard : Claim7 := { stood := { row := solveProvesUptoRow, standIns := [], harness := (true, "41b9ce2e03f5c797346d13d89d85ddc7ab9bee3d6ed5d7449db14be39b6a6600"), looks := true }, kinds := [], alts := [], laidByText := true, laidKinds := [.data, .data, .data], laidTests := true, laidLooks := .later }
def SolveProvesUptoCardSaid : Prop := Claim7.holds Tryz.pinned (.plain (OpenSpec.upto solveProvesSpec)) solveProvesUptoCard

/-- THE SECOND FORM's CARD OF 'cleanselaw29.SolveFirst'. -/
def solveFirstUptoCard : Claim7 := { stood := { row := solveFirstUptoRow, standIns := [], harness := (true, "41b9ce2e03f5c797346d13d89d85ddc7ab9bee3d6ed5d7449db14be39b6a6600"), looks := true }, kinds := [], alts := [], laidByText := true, laidKinds := [.data, .data, .data], laidTests := true, laidLooks := .later }
def SolveFirstUptoCardSaid : Prop := Claim7.holds Tryz.pinned (.plain (OpenSpec.upto solveFirstSpec)) solveFirstUptoCard

/-- THE SECOND FORM's CARD OF 'cleanselaw29.SolveWays'. -/
def solveWaysUptoCard : Claim7 := { stood := { row := solveWaysUptoRow, standIns := [], harness := (true, "41b9ce2e03f5c797346d13d89d85ddc7ab9bee3d6ed5d7449db14be39b6a6600"), looks := true }, kinds := [], alts := [], laidByText := true, laidKinds := [.data, .data, .data], laidTests := true, laidLooks := .later }
def SolveWaysUptoCardSaid : Prop := Claim7.holds Tryz.pinned (.plain (OpenSpec.upto solveWaysSpec)) solveWaysUptoCard

/-- THE SECOND FORM's CARD OF 'cleanselaw29.SolveErrors'. -/
def solveErrorsUptoCard : Claim7 := { stood := { row := solveErrorsUptoRow, standIns := [], harness := (true, "41b9ce2e03f5c797346d13d89d85ddc7ab9bee3d6ed5d7449db14be39b6a6600"), looks := true }, kinds := [], alts := [], laidByText := true, laidKinds := [.data, .data, .data], laidTests := true, laidLooks := .later }
def SolveErrorsUptoCardSaid : Prop := Claim7.holds Tryz.pinned (.plain (OpenSpec.upto solveErrorsSpec)) solveErrorsUptoCard

/-- THE SECOND FORM's CARD OF 'cleanselaw29.SolveParts'. -/
def solvePartsUptoCard : Claim7 := { stood := { row := solvePartsUptoRow, standIns := [], harness := (true, "41b9ce2e03f5c797346d13d89d85ddc7ab9bee3d6ed5d7449db14be39b6a6600"), looks := true }, kinds := [], alts := [], laidByText := true, laidKinds := [.data, .data, .data], laidTests := true, laidLooks := .later }
def SolvePartsUptoCardSaid : Prop := Claim7.holds Tryz.pinned (.plain (OpenSpec.upto solvePartsSpec)) solvePartsUptoCard

/-- THE SECOND FORM's CARD OF 'cleanselaw29.SolveVerdicts'. -/
def solveVerdictsUptoCard : Claim7 := { stood := { row := solveVerdictsUptoRow, standIns := [], harness := (true, "41b9ce2e03f5c797346d13d89d85ddc7ab9bee3d6ed5d7449db14be39b6a6600"), looks := true }, kinds := [], alts := [], laidByText := true, laidKinds := [.data, .data, .data], laidTests := true, laidLooks := .later }
def SolveVerdictsUptoCardSaid : Prop := Claim7.holds Tryz.pinned (.plain (OpenSpec.upto solveVerdictsSpec)) solveVerdictsUptoCard

/-- THE SECOND FORM's CARD OF 'cleanselaw32.BoundSolve'. -/
def boundSolveUptoCard : Claim7 := { stood := { row := boundSolveUptoRow, standIns := [], harness := (true, "41b9ce2e03f5c797346d13d89d85ddc7ab9bee3d6ed5d7449db14be39b6a6600"), looks := true }, kinds := [], alts := [], laidByText := true, laidKinds := [.data, .data, .data], laidTests := true, laidLooks := .later }
def BoundSolveUptoCardSaid : Prop := Claim7.holds Tryz.pinned (.plain (OpenSpec.upto boundSolveSpec)) boundSolveUptoCard
end Rows
end Go.Proofs.YthjifmfmaiagoaaGreatDoor

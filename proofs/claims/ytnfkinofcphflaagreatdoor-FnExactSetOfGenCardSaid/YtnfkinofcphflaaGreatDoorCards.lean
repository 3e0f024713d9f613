/-
  DERIVED. GIVEN WITH THE SEED: THE CARDS: each row of YtnfkinofcphflaaGreatDoorRows.lean that lists a variable, with what it lists TIED to the program's text (the seventh form; the later family's looks); each row that meets fmt, with fmt's text TOLD by the authors' own Lean function (tested against real Go, not proved from fmt's source: count such statements apart). THE CARD IS WHAT COUNTS. Prove the row's statement (the work); the ties are given (YtnfkinofcphflaaGreatDoorTie.lean); close each card by the builder's one call (the guide's Derived/Test/ToyasCard.lean, 'card_holds'). Laid BY PROGRAM, IN A SANDBOX (cutbox-door.mjs). By AI agents, Wed Nov 11 2026. No macro, syntax, notation, axiom, sorry.
-/
import Derived.Test.YtnfkinofcphflaaGreatDoorRows
import GoSem.ClaimSeven
namespace Go.Proofs.YtnfkinofcphflaaGreatDoor
namespace Rows

/-- THE TIED CARD OF 'laws.FnRoots'. -/
def fnRootsCard : Claim7 := { stood := { row := fnRootsRow, standIns := [], harness := (true, "0338eddc160d3203cc1052a0a08cf78f73c2d447f2f9106a8a3216f3c1e6e4d6"), looks := false }, kinds := [], alts := [], laidByText := true, laidKinds := [.data, .data, .data, .data, .pinned], laidTests := true, laidLooks := .later }
def FnRootsCardSaid : Prop := Claim7.holds Tryz.pinned (.plain (OpenSpec.ofChange fnRootsSpec)) fnRootsCard

/-- THE TIED CARD OF 'laws.FnExactNewSystem'. -/
def fnExactNewSystemCard : Claim7 := { stood := { row := fnExactNewSystemRow, standIns := [], harness := (true, "0338eddc160d3203cc1052a0a08cf78f73c2d447f2f9106a8a3216f3c1e6e4d6"), looks := false }, kinds := [], alts := [], laidByText := true, laidKinds := [.data, .data, .data], laidTests := true, laidLooks := .later }
def FnExactNewSystemCardSaid : Prop := Claim7.holds Tryz.pinned (.plain (OpenSpec.ofChange fnExactNewSystemSpec)) fnExactNewSystemCard

/-- THE TIED CARD OF 'laws.FnExactReadPlan'. -/
def fnExactReadPlanCard : Claim7 := { stood := { row := fnExactReadPlanRow, standIns := [], harness := (true, "0338eddc160d3203cc1052a0a08cf78f73c2d447f2f9106a8a3216f3c1e6e4d6"), looks := false }, kinds := [], alts := [], laidByText := true, laidKinds := [.data, .data, .data, .data, .pinned], laidTests := true, laidLooks := .later }
def FnExactReadPlanCardSaid : Prop := Claim7.holds Tryz.pinned (.plain (OpenSpec.ofChange fnExactReadPlanSpec)) fnExactReadPlanCard

/-- THE TIED CARD OF 'laws.FnPlanTexts'. -/
def fnPlanTextsCard : Claim7 := { stood := { row := fnPlanTextsRow, standIns := [], harness := (true, "0338eddc160d3203cc1052a0a08cf78f73c2d447f2f9106a8a3216f3c1e6e4d6"), looks := false }, kinds := [], alts := [], laidByText := true, laidKinds := [.data, .data, .data, .data, .pinned], laidTests := true, laidLooks := .later }
def FnPlanTextsCardSaid : Prop := Claim7.holds Tryz.pinned (.plain (OpenSpec.ofChange fnPlanTextsSpec)) fnPlanTextsCard

/-- THE TIED CARD OF 'laws.FnExactRunBatch'. -/
def fnExactRunBatchCard : Claim7 := { stood := { row := fnExactRunBatchRow, standIns := [], harness := (true, "0338eddc160d3203cc1052a0a08cf78f73c2d447f2f9106a8a3216f3c1e6e4d6"), looks := false }, kinds := [], alts := [], laidByText := true, laidKinds := [.data, .data, .data], laidTests := true, laidLooks := .later }
def FnExactRunBatchCardSaid : Prop := Claim7.holds Tryz.pinned (.plain (OpenSpec.ofChange fnExactRunBatchSpec)) fnExactRunBatchCard

/-- THE TIED CARD OF 'laws.FnExactSetOfGen'. -/
def fnExactSetOfGenCard : Claim7 := { stood := { row := fnExactSetOfGenRow, standIns := [], harness := (true, "0338eddc160d3203cc1052a0a08cf78f73c2d447f2f9106a8a3216f3c1e6e4d6"), looks := false }, kinds := [], alts := [], laidByText := true, laidKinds := [.data, .data, .data, .data, .pinned], laidTests := true, laidLooks := .later }
def FnExactSetOfGenCardSaid : Prop := Claim7.holds Tryz.pinned (.plain (OpenSpec.ofChange fnExactSetOfGenSpec)) fnExactSetOfGenCard

/-- THE TIED CARD OF 'laws.FnExactShownSet'. -/
def fnExactShownSetCard : Claim7 := { stood := { row := fnExactShownSetRow, standIns := [], harness := (true, "0338eddc160d3203cc1052a0a08cf78f73c2d447f2f9106a8a3216f3c1e6e4d6"), looks := false }, kinds := [], alts := [], laidByText := true, laidKinds := [.data, .data, .data, .data, .pinned], laidTests := true, laidLooks := .later }
def FnExactShownSetCardSaid : Prop := Claim7.holds Tryz.pinned (.plain (OpenSpec.ofChange fnExactShownSetSpec)) fnExactShownSetCard

/-- THE TIED CARD OF 'laws.FnExactWasteOf'. -/
def fnExactWasteOfCard : Claim7 := { stood := { row := fnExactWasteOfRow, standIns := [], harness := (true, "0338eddc160d3203cc1052a0a08cf78f73c2d447f2f9106a8a3216f3c1e6e4d6"), looks := false }, kinds := [], alts := [], laidByText := true, laidKinds := [.data, .data, .data, .data, .pinned], laidTests := true, laidLooks := .later }
def FnExactWasteOfCardSaid : Prop := Claim7.holds Tryz.pinned (.plain (OpenSpec.ofChange fnExactWasteOfSpec)) fnExactWasteOfCard

/-- THE TIED CARD OF 'laws.FnExactReachedPaths'. -/
def fnExactReachedPathsCard : Claim7 := { stood := { row := fnExactReachedPathsRow, standIns := [], harness := (true, "0338eddc160d3203cc1052a0a08cf78f73c2d447f2f9106a8a3216f3c1e6e4d6"), looks := false }, kinds := [], alts := [], laidByText := true, laidKinds := [.data, .data, .data, .data, .pinned], laidTests := true, laidLooks := .later }
def FnExactReachedPathsCardSaid : Prop := Claim7.holds Tryz.pinned (.plain (OpenSpec.ofChange fnExactReachedPathsSpec)) fnExactReachedPathsCard

/-- THE SECOND FORM's CARD OF 'laws.FnRoots'. -/
def fnRootsUptoCard : Claim7 := { stood := { row := fnRootsUptoRow, standIns := [], harness := (true, "0338eddc160d3203cc1052a0a08cf78f73c2d447f2f9106a8a3216f3c1e6e4d6"), looks := false }, kinds := [], alts := [], laidByText := true, laidKinds := [.data, .data, .data, .data, .pinned], laidTests := true, laidLooks := .later }
def FnRootsUptoCardSaid : Prop := Claim7.holds Tryz.pinned (.plain (OpenSpec.upto fnRootsSpec)) fnRootsUptoCard

/-- THE SECOND FORM's CARD OF 'laws.FnExactNewSystem'. -/
def fnExactNewSystemUptoCard : Claim7 := { stood := { row := fnExactNewSystemUptoRow, standIns := [], harness := (true, "0338eddc160d3203cc1052a0a08cf78f73c2d447f2f9106a8a3216f3c1e6e4d6"), looks := false }, kinds := [], alts := [], laidByText := true, laidKinds := [.data, .data, .data], laidTests := true, laidLooks := .later }
def FnExactNewSystemUptoCardSaid : Prop := Claim7.holds Tryz.pinned (.plain (OpenSpec.upto fnExactNewSystemSpec)) fnExactNewSystemUptoCard

/-- THE SECOND FORM's CARD OF 'laws.FnExactReadPlan'. -/
def fnExactReadPlanUptoCard : Claim7 := { stood := { row := fnExactReadPlanUptoRow, standIns := [], harness := (true, "0338eddc160d3203cc1052a0a08cf78f73c2d447f2f9106a8a3216f3c1e6e4d6"), looks := false }, kinds := [], alts := [], laidByText := true, laidKinds := [.data, .data, .data, .data, .pinned], laidTests := true, laidLooks := .later }
def FnExactReadPlanUptoCardSaid : Prop := Claim7.holds Tryz.pinned (.plain (OpenSpec.upto fnExactReadPlanSpec)) fnExactReadPlanUptoCard

/-- THE SECOND FORM's CARD OF 'laws.FnPlanTexts'. -/
def fnPlanTextsUptoCard : Claim7 := { stood := { row := fnPlanTextsUptoRow, standIns := [], harness := (true, "0338eddc160d3203cc1052a0a08cf78f73c2d447f2f9106a8a3216f3c1e6e4d6"), looks := false }, kinds := [], alts := [], laidByText := true, laidKinds := [.data, .data, .data, .data, .pinned], laidTests := true, laidLooks := .later }
def FnPlanTextsUptoCardSaid : Prop := Claim7.holds Tryz.pinned (.plain (OpenSpec.upto fnPlanTextsSpec)) fnPlanTextsUptoCard

/-- THE SECOND FORM's CARD OF 'laws.FnExactRunBatch'. -/
def fnExactRunBatchUptoCard : Claim7 := { stood := { row := fnExactRunBatchUptoRow, standIns := [], harness := (true, "0338eddc160d3203cc1052a0a08cf78f73c2d447f2f9106a8a3216f3c1e6e4d6"), looks := false }, kinds := [], alts := [], laidByText := true, laidKinds := [.data, .data, .data], laidTests := true, laidLooks := .later }
def FnExactRunBatchUptoCardSaid : Prop := Claim7.holds Tryz.pinned (.plain (OpenSpec.upto fnExactRunBatchSpec)) fnExactRunBatchUptoCard

/-- THE SECOND FORM's CARD OF 'laws.FnExactSetOfGen'. -/
def fnExactSetOfGenUptoCard : Claim7 := { stood := { row := fnExactSetOfGenUptoRow, standIns := [], harness := (true, "0338eddc160d3203cc1052a0a08cf78f73c2d447f2f9106a8a3216f3c1e6e4d6"), looks := false }, kinds := [], alts := [], laidByText := true, laidKinds := [.data, .data, .data, .data, .pinned], laidTests := true, laidLooks := .later }
def FnExactSetOfGenUptoCardSaid : Prop := Claim7.holds Tryz.pinned (.plain (OpenSpec.upto fnExactSetOfGenSpec)) fnExactSetOfGenUptoCard

/-- THE SECOND FORM's CARD OF 'laws.FnExactShownSet'. -/
def fnExactShownSetUptoCard : Claim7 := { stood := { row := fnExactShownSetUptoRow, standIns := [], harness := (true, "0338eddc160d3203cc1052a0a08cf78f73c2d447f2f9106a8a3216f3c1e6e4d6"), looks := false }, kinds := [], alts := [], laidByText := true, laidKinds := [.data, .data, .data, .data, .pinned], laidTests := true, laidLooks := .later }
def FnExactShownSetUptoCardSaid : Prop := Claim7.holds Tryz.pinned (.plain (OpenSpec.upto fnExactShownSetSpec)) fnExactShownSetUptoCard

/-- THE SECOND FORM's CARD OF 'laws.FnExactWasteOf'. -/
def fnExactWasteOfUptoCard : Claim7 := { stood := { row := fnExactWasteOfUptoRow, standIns := [], harness := (true, "0338eddc160d3203cc1052a0a08cf78f73c2d447f2f9106a8a3216f3c1e6e4d6"), looks := false }, kinds := [], alts := [], laidByText := true, laidKinds := [.data, .data, .data, .data, .pinned], laidTests := true, laidLooks := .later }
def FnExactWasteOfUptoCardSaid : Prop := Claim7.holds Tryz.pinned (.plain (OpenSpec.upto fnExactWasteOfSpec)) fnExactWasteOfUptoCard

/-- THE SECOND FORM's CARD OF 'laws.FnExactReachedPaths'. -/
def fnExactReachedPathsUptoCard : Claim7 := { stood := { row := fnExactReachedPathsUptoRow, standIns := [], harness := (true, "0338eddc160d3203cc1052a0a08cf78f73c2d447f2f9106a8a3216f3c1e6e4d6"), looks := false }, kinds := [], alts := [], laidByText := true, laidKinds := [.data, .data, .data, .data, .pinned], laidTests := true, laidLooks := .later }
def FnExactReachedPathsUptoCardSaid : Prop := Claim7.holds Tryz.pinned (.plain (OpenSpec.upto fnExactReachedPathsSpec)) fnExactReachedPathsUptoCard
end Rows
end Go.Proofs.YtnfkinofcphflaaGreatDoor

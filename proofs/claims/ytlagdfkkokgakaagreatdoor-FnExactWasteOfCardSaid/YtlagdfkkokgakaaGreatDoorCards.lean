/-
  DERIVED. GIVEN WITH THE SEED: THE CARDS: each row of YtlagdfkkokgakaaGreatDoorRows.lean that lists a variable, with what it lists TIED to the program's text (the seventh form; the later family's looks); each row that meets fmt, with fmt's text TOLD by the authors' own Lean function (tested against real Go, not proved from fmt's source: count such statements apart). THE CARD IS WHAT COUNTS. Prove the row's statement (the work); the ties are given (YtlagdfkkokgakaaGreatDoorTie.lean); close each card by the builder's one call (the guide's Derived/Test/ToyasCard.lean, 'card_holds'). Laid BY PROGRAM, IN A SANDBOX (cutbox-door.mjs). By AI agents, Wed Nov 11 2026. No macro, syntax, notation, axiom, sorry.
-/
import Derived.Test.YtlagdfkkokgakaaGreatDoorRows
import GoSem.ClaimSeven
namespace Go.Proofs.YtlagdfkkokgakaaGreatDoor
namespace Rows

/-- THE TIED CARD OF 'laws.FnExactNewSystem'. -/
def fnExactNewSystemCard : Claim7 := { stood := { row := fnExactNewSystemRow, standIns := [], harness := (true, "eec7b057cec2ae3f64184b2ca9e4a963c5a7656d3a78eb18ca1143054eac0cf5"), looks := false }, kinds := [], alts := [], laidByText := true, laidKinds := [.data, .data, .data], laidTests := true, laidLooks := .later }
def FnExactNewSystemCardSaid : Prop := Claim7.holds Tryz.pinned (.plain (OpenSpec.ofChange fnExactNewSystemSpec)) fnExactNewSystemCard

/-- THE TIED CARD OF 'laws.FnExactBatchCost'. -/
def fnExactBatchCostCard : Claim7 := { stood := { row := fnExactBatchCostRow, standIns := [], harness := (true, "eec7b057cec2ae3f64184b2ca9e4a963c5a7656d3a78eb18ca1143054eac0cf5"), looks := false }, kinds := [], alts := [], laidByText := true, laidKinds := [.data, .data, .data], laidTests := true, laidLooks := .later }
def FnExactBatchCostCardSaid : Prop := Claim7.holds Tryz.pinned (.plain (OpenSpec.ofChange fnExactBatchCostSpec)) fnExactBatchCostCard

/-- THE TIED CARD OF 'laws.FnExactReadPlan'. -/
def fnExactReadPlanCard : Claim7 := { stood := { row := fnExactReadPlanRow, standIns := [], harness := (true, "eec7b057cec2ae3f64184b2ca9e4a963c5a7656d3a78eb18ca1143054eac0cf5"), looks := false }, kinds := [], alts := [], laidByText := true, laidKinds := [.data, .data, .data, .data, .pinned], laidTests := true, laidLooks := .later }
def FnExactReadPlanCardSaid : Prop := Claim7.holds Tryz.pinned (.plain (OpenSpec.ofChange fnExactReadPlanSpec)) fnExactReadPlanCard

/-- THE TIED CARD OF 'laws.FnExactRunBatch'. -/
def fnExactRunBatchCard : Claim7 := { stood := { row := fnExactRunBatchRow, standIns := [], harness := (true, "eec7b057cec2ae3f64184b2ca9e4a963c5a7656d3a78eb18ca1143054eac0cf5"), looks := false }, kinds := [], alts := [], laidByText := true, laidKinds := [.data, .data, .data], laidTests := true, laidLooks := .later }
def FnExactRunBatchCardSaid : Prop := Claim7.holds Tryz.pinned (.plain (OpenSpec.ofChange fnExactRunBatchSpec)) fnExactRunBatchCard

/-- THE TIED CARD OF 'laws.FnExactWasteOf'. -/
def fnExactWasteOfCard : Claim7 := { stood := { row := fnExactWasteOfRow, standIns := [], harness := (true, "eec7b057cec2ae3f64184b2ca9e4a963c5a7656d3a78eb18ca1143054eac0cf5"), looks := false }, kinds := [], alts := [], laidByText := true, laidKinds := [.data, .data, .data, .data, .pinned], laidTests := true, laidLooks := .later }
def FnExactWasteOfCardSaid : Prop := Claim7.holds Tryz.pinned (.plain (OpenSpec.ofChange fnExactWasteOfSpec)) fnExactWasteOfCard

/-- THE TIED CARD OF 'laws.FnExactReachedPaths'. -/
def fnExactReachedPathsCard : Claim7 := { stood := { row := fnExactReachedPathsRow, standIns := [], harness := (true, "eec7b057cec2ae3f64184b2ca9e4a963c5a7656d3a78eb18ca1143054eac0cf5"), looks := false }, kinds := [], alts := [], laidByText := true, laidKinds := [.data, .data, .data, .data, .pinned], laidTests := true, laidLooks := .later }
def FnExactReachedPathsCardSaid : Prop := Claim7.holds Tryz.pinned (.plain (OpenSpec.ofChange fnExactReachedPathsSpec)) fnExactReachedPathsCard

/-- THE SECOND FORM's CARD OF 'laws.FnExactNewSystem'. -/
def fnExactNewSystemUptoCard : Claim7 := { stood := { row := fnExactNewSystemUptoRow, standIns := [], harness := (true, "eec7b057cec2ae3f64184b2ca9e4a963c5a7656d3a78eb18ca1143054eac0cf5"), looks := false }, kinds := [], alts := [], laidByText := true, laidKinds := [.data, .data, .data], laidTests := true, laidLooks := .later }
def FnExactNewSystemUptoCardSaid : Prop := Claim7.holds Tryz.pinned (.plain (OpenSpec.upto fnExactNewSystemSpec)) fnExactNewSystemUptoCard

/-- THE SECOND FORM's CARD OF 'laws.FnExactBatchCost'. -/
def fnExactBatchCostUptoCard : Claim7 := { stood := { row := fnExactBatchCostUptoRow, standIns := [], harness := (true, "eec7b057cec2ae3f64184b2ca9e4a963c5a7656d3a78eb18ca1143054eac0cf5"), looks := false }, kinds := [], alts := [], laidByText := true, laidKinds := [.data, .data, .data], laidTests := true, laidLooks := .later }
def FnExactBatchCostUptoCardSaid : Prop := Claim7.holds Tryz.pinned (.plain (OpenSpec.upto fnExactBatchCostSpec)) fnExactBatchCostUptoCard

/-- THE SECOND FORM's CARD OF 'laws.FnExactReadPlan'. -/
def fnExactReadPlanUptoCard : Claim7 := { stood := { row := fnExactReadPlanUptoRow, standIns := [], harness := (true, "eec7b057cec2ae3f64184b2ca9e4a963c5a7656d3a78eb18ca1143054eac0cf5"), looks := false }, kinds := [], alts := [], laidByText := true, laidKinds := [.data, .data, .data, .data, .pinned], laidTests := true, laidLooks := .later }
def FnExactReadPlanUptoCardSaid : Prop := Claim7.holds Tryz.pinned (.plain (OpenSpec.upto fnExactReadPlanSpec)) fnExactReadPlanUptoCard

/-- THE SECOND FORM's CARD OF 'laws.FnExactRunBatch'. -/
def fnExactRunBatchUptoCard : Claim7 := { stood := { row := fnExactRunBatchUptoRow, standIns := [], harness := (true, "eec7b057cec2ae3f64184b2ca9e4a963c5a7656d3a78eb18ca1143054eac0cf5"), looks := false }, kinds := [], alts := [], laidByText := true, laidKinds := [.data, .data, .data], laidTests := true, laidLooks := .later }
def FnExactRunBatchUptoCardSaid : Prop := Claim7.holds Tryz.pinned (.plain (OpenSpec.upto fnExactRunBatchSpec)) fnExactRunBatchUptoCard

/-- THE SECOND FORM's CARD OF 'laws.FnExactWasteOf'. -/
def fnExactWasteOfUptoCard : Claim7 := { stood := { row := fnExactWasteOfUptoRow, standIns := [], harness := (true, "eec7b057cec2ae3f64184b2ca9e4a963c5a7656d3a78eb18ca1143054eac0cf5"), looks := false }, kinds := [], alts := [], laidByText := true, laidKinds := [.data, .data, .data, .data, .pinned], laidTests := true, laidLooks := .later }
def FnExactWasteOfUptoCardSaid : Prop := Claim7.holds Tryz.pinned (.plain (OpenSpec.upto fnExactWasteOfSpec)) fnExactWasteOfUptoCard

/-- THE SECOND FORM's CARD OF 'laws.FnExactReachedPaths'. -/
def fnExactReachedPathsUptoCard : Claim7 := { stood := { row := fnExactReachedPathsUptoRow, standIns := [], harness := (true, "eec7b057cec2ae3f64184b2ca9e4a963c5a7656d3a78eb18ca1143054eac0cf5"), looks := false }, kinds := [], alts := [], laidByText := true, laidKinds := [.data, .data, .data, .data, .pinned], laidTests := true, laidLooks := .later }
def FnExactReachedPathsUptoCardSaid : Prop := Claim7.holds Tryz.pinned (.plain (OpenSpec.upto fnExactReachedPathsSpec)) fnExactReachedPathsUptoCard
end Rows
end Go.Proofs.YtlagdfkkokgakaaGreatDoor

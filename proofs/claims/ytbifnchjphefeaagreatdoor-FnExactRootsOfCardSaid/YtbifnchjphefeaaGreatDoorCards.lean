/-
  DERIVED. GIVEN WITH THE SEED: THE CARDS: each row of YtbifnchjphefeaaGreatDoorRows.lean that lists a variable, with what it lists TIED to the program's text (the seventh form; the later family's looks); each row that meets fmt, with fmt's text TOLD by the authors' own Lean function (tested against real Go, not proved from fmt's source: count such statements apart). THE CARD IS WHAT COUNTS. Prove the row's statement (the work); the ties are given (YtbifnchjphefeaaGreatDoorTie.lean); close each card by the builder's one call (the guide's Derived/Test/ToyasCard.lean, 'card_holds'). Laid BY PROGRAM, IN A SANDBOX (cutbox-door.mjs). By AI agents, Wed Nov 11 2026. No macro, syntax, notation, axiom, sorry.
-/
import Derived.Test.YtbifnchjphefeaaGreatDoorRows
import GoSem.ClaimSeven
namespace Go.Proofs.YtbifnchjphefeaaGreatDoor
namespace Rows

/-- THE TIED CARD OF 'laws.FnExactPlanText'. -/
def fnExactPlanTextCard : Claim7 := { stood := { row := fnExactPlanTextRow, standIns := [], harness := (true, "bc4257164c16117cb69ce6079ea44494d1d2504f766e5df404e7dda8f84e28be"), looks := false }, kinds := [], alts := [], laidByText := true, laidKinds := [.data, .data, .data], laidTests := true, laidLooks := .later }
def FnExactPlanTextCardSaid : Prop := Claim7.holds Tryz.pinned (.plain (OpenSpec.ofChange fnExactPlanTextSpec)) fnExactPlanTextCard

/-- THE TIED CARD OF 'laws.FnExactWholeSet'. -/
def fnExactWholeSetCard : Claim7 := { stood := { row := fnExactWholeSetRow, standIns := [], harness := (true, "bc4257164c16117cb69ce6079ea44494d1d2504f766e5df404e7dda8f84e28be"), looks := false }, kinds := [], alts := [], laidByText := true, laidKinds := [.data, .data, .data], laidTests := true, laidLooks := .later }
def FnExactWholeSetCardSaid : Prop := Claim7.holds Tryz.pinned (.plain (OpenSpec.ofChange fnExactWholeSetSpec)) fnExactWholeSetCard

/-- THE TIED CARD OF 'laws.FnExactLackingOf'. -/
def fnExactLackingOfCard : Claim7 := { stood := { row := fnExactLackingOfRow, standIns := [], harness := (true, "bc4257164c16117cb69ce6079ea44494d1d2504f766e5df404e7dda8f84e28be"), looks := false }, kinds := [], alts := [], laidByText := true, laidKinds := [.data, .data, .data], laidTests := true, laidLooks := .later }
def FnExactLackingOfCardSaid : Prop := Claim7.holds Tryz.pinned (.plain (OpenSpec.ofChange fnExactLackingOfSpec)) fnExactLackingOfCard

/-- THE TIED CARD OF 'laws.FnExactRootsOf'. -/
def fnExactRootsOfCard : Claim7 := { stood := { row := fnExactRootsOfRow, standIns := [], harness := (true, "bc4257164c16117cb69ce6079ea44494d1d2504f766e5df404e7dda8f84e28be"), looks := false }, kinds := [], alts := [], laidByText := true, laidKinds := [.data, .data, .data, .data, .pinned], laidTests := true, laidLooks := .later }
def FnExactRootsOfCardSaid : Prop := Claim7.holds Tryz.pinned (.plain (OpenSpec.ofChange fnExactRootsOfSpec)) fnExactRootsOfCard

/-- THE TIED CARD OF 'laws.FnExactBatchCost'. -/
def fnExactBatchCostCard : Claim7 := { stood := { row := fnExactBatchCostRow, standIns := [], harness := (true, "bc4257164c16117cb69ce6079ea44494d1d2504f766e5df404e7dda8f84e28be"), looks := false }, kinds := [], alts := [], laidByText := true, laidKinds := [.data, .data, .data], laidTests := true, laidLooks := .later }
def FnExactBatchCostCardSaid : Prop := Claim7.holds Tryz.pinned (.plain (OpenSpec.ofChange fnExactBatchCostSpec)) fnExactBatchCostCard

/-- THE SECOND FORM's CARD OF 'laws.FnExactPlanText'. -/
def fnExactPlanTextUptoCard : Claim7 := { stood := { row := fnExactPlanTextUptoRow, standIns := [], harness := (true, "bc4257164c16117cb69ce6079ea44494d1d2504f766e5df404e7dda8f84e28be"), looks := false }, kinds := [], alts := [], laidByText := true, laidKinds := [.data, .data, .data], laidTests := true, laidLooks := .later }
def FnExactPlanTextUptoCardSaid : Prop := Claim7.holds Tryz.pinned (.plain (OpenSpec.upto fnExactPlanTextSpec)) fnExactPlanTextUptoCard

/-- THE SECOND FORM's CARD OF 'laws.FnExactWholeSet'. -/
def fnExactWholeSetUptoCard : Claim7 := { stood := { row := fnExactWholeSetUptoRow, standIns := [], harness := (true, "bc4257164c16117cb69ce6079ea44494d1d2504f766e5df404e7dda8f84e28be"), looks := false }, kinds := [], alts := [], laidByText := true, laidKinds := [.data, .data, .data], laidTests := true, laidLooks := .later }
def FnExactWholeSetUptoCardSaid : Prop := Claim7.holds Tryz.pinned (.plain (OpenSpec.upto fnExactWholeSetSpec)) fnExactWholeSetUptoCard

/-- THE SECOND FORM's CARD OF 'laws.FnExactLackingOf'. -/
def fnExactLackingOfUptoCard : Claim7 := { stood := { row := fnExactLackingOfUptoRow, standIns := [], harness := (true, "bc4257164c16117cb69ce6079ea44494d1d2504f766e5df404e7dda8f84e28be"), looks := false }, kinds := [], alts := [], laidByText := true, laidKinds := [.data, .data, .data], laidTests := true, laidLooks := .later }
def FnExactLackingOfUptoCardSaid : Prop := Claim7.holds Tryz.pinned (.plain (OpenSpec.upto fnExactLackingOfSpec)) fnExactLackingOfUptoCard

/-- THE SECOND FORM's CARD OF 'laws.FnExactRootsOf'. -/
def fnExactRootsOfUptoCard : Claim7 := { stood := { row := fnExactRootsOfUptoRow, standIns := [], harness := (true, "bc4257164c16117cb69ce6079ea44494d1d2504f766e5df404e7dda8f84e28be"), looks := false }, kinds := [], alts := [], laidByText := true, laidKinds := [.data, .data, .data, .data, .pinned], laidTests := true, laidLooks := .later }
def FnExactRootsOfUptoCardSaid : Prop := Claim7.holds Tryz.pinned (.plain (OpenSpec.upto fnExactRootsOfSpec)) fnExactRootsOfUptoCard

/-- THE SECOND FORM's CARD OF 'laws.FnExactBatchCost'. -/
def fnExactBatchCostUptoCard : Claim7 := { stood := { row := fnExactBatchCostUptoRow, standIns := [], harness := (true, "bc4257164c16117cb69ce6079ea44494d1d2504f766e5df404e7dda8f84e28be"), looks := false }, kinds := [], alts := [], laidByText := true, laidKinds := [.data, .data, .data], laidTests := true, laidLooks := .later }
def FnExactBatchCostUptoCardSaid : Prop := Claim7.holds Tryz.pinned (.plain (OpenSpec.upto fnExactBatchCostSpec)) fnExactBatchCostUptoCard
end Rows
end Go.Proofs.YtbifnchjphefeaaGreatDoor

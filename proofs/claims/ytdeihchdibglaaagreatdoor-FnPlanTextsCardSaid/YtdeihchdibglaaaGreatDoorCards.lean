/-
  DERIVED. GIVEN WITH THE SEED: THE CARDS: each row of YtdeihchdibglaaaGreatDoorRows.lean that lists a variable, with what it lists TIED to the program's text (the seventh form; the later family's looks); each row that meets fmt, with fmt's text TOLD by the authors' own Lean function (tested against real Go, not proved from fmt's source: count such statements apart). THE CARD IS WHAT COUNTS. Prove the row's statement (the work); the ties are given (YtdeihchdibglaaaGreatDoorTie.lean); close each card by the builder's one call (the guide's Derived/Test/ToyasCard.lean, 'card_holds'). Laid BY PROGRAM, IN A SANDBOX (cutbox-door.mjs). By AI agents, Wed Nov 11 2026. No macro, syntax, notation, axiom, sorry.
-/
import Derived.Test.YtdeihchdibglaaaGreatDoorRows
import GoSem.ClaimSeven
namespace Go.Proofs.YtdeihchdibglaaaGreatDoor
namespace Rows

/-- THE TIED CARD OF 'laws.FnPlanTexts'. -/
def fnPlanTextsCard : Claim7 := { stood := { row := fnPlanTextsRow, standIns := [], harness := (true, "d034c8358a0122590cb047cdb33b13fdfd0c73398f8cc03c8d1ba648369caaa8"), looks := false }, kinds := [], alts := [], laidByText := true, laidKinds := [.data, .data, .data, .data, .pinned], laidTests := true, laidLooks := .later }
def FnPlanTextsCardSaid : Prop := Claim7.holds Tryz.pinned (.plain (OpenSpec.ofChange fnPlanTextsSpec)) fnPlanTextsCard

/-- THE SECOND FORM's CARD OF 'laws.FnPlanTexts'. -/
def fnPlanTextsUptoCard : Claim7 := { stood := { row := fnPlanTextsUptoRow, standIns := [], harness := (true, "d034c8358a0122590cb047cdb33b13fdfd0c73398f8cc03c8d1ba648369caaa8"), looks := false }, kinds := [], alts := [], laidByText := true, laidKinds := [.data, .data, .data, .data, .pinned], laidTests := true, laidLooks := .later }
def FnPlanTextsUptoCardSaid : Prop := Claim7.holds Tryz.pinned (.plain (OpenSpec.upto fnPlanTextsSpec)) fnPlanTextsUptoCard
end Rows
end Go.Proofs.YtdeihchdibglaaaGreatDoor

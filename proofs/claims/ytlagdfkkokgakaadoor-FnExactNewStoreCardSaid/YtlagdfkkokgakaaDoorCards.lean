/-
  DERIVED. GIVEN WITH THE SEED: THE CARDS: each row of YtlagdfkkokgakaaDoorRows.lean that lists a variable, with what it lists TIED to the program's text (the seventh form; the later family's looks); each row that meets fmt, with fmt's text TOLD by the authors' own Lean function (tested against real Go, not proved from fmt's source: count such statements apart). THE CARD IS WHAT COUNTS. Prove the row's statement (the work); the ties are given (YtlagdfkkokgakaaDoorTie.lean); close each card by the builder's one call (the guide's Derived/Test/ToyasCard.lean, 'card_holds'). Laid BY PROGRAM, IN A SANDBOX (cutbox-door.mjs). By AI agents, Wed Nov 11 2026. No macro, syntax, notation, axiom, sorry.
-/
import Derived.Test.YtlagdfkkokgakaaDoorRows
import GoSem.ClaimSeven
namespace Go.Proofs.YtlagdfkkokgakaaDoor
namespace Rows

/-- THE TIED CARD OF 'laws.FnExactNewStore'. -/
def fnExactNewStoreCard : Claim7 := { stood := { row := fnExactNewStoreRow, standIns := [], harness := (true, "08db638e57098a281bd85b94b4614bfc1d83edb7c13e0b33921331e0ed7d1574"), looks := false }, kinds := [], alts := [], laidByText := true, laidKinds := [.data, .data, .data], laidTests := true, laidLooks := .later }
def FnExactNewStoreCardSaid : Prop := Claim7.holds Tryd.pinned (.plain (OpenSpec.ofChange fnExactNewStoreSpec)) fnExactNewStoreCard

/-- THE SECOND FORM's CARD OF 'laws.FnExactNewStore'. -/
def fnExactNewStoreUptoCard : Claim7 := { stood := { row := fnExactNewStoreUptoRow, standIns := [], harness := (true, "08db638e57098a281bd85b94b4614bfc1d83edb7c13e0b33921331e0ed7d1574"), looks := false }, kinds := [], alts := [], laidByText := true, laidKinds := [.data, .data, .data], laidTests := true, laidLooks := .later }
def FnExactNewStoreUptoCardSaid : Prop := Claim7.holds Tryd.pinned (.plain (OpenSpec.upto fnExactNewStoreSpec)) fnExactNewStoreUptoCard
end Rows
end Go.Proofs.YtlagdfkkokgakaaDoor

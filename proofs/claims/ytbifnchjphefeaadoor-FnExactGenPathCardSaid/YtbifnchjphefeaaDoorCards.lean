/-
  DERIVED. GIVEN WITH THE SEED: THE CARDS: each row of YtbifnchjphefeaaDoorRows.lean that lists a variable, with what it lists TIED to the program's text (the seventh form; the later family's looks); each row that meets fmt, with fmt's text TOLD by the authors' own Lean function (tested against real Go, not proved from fmt's source: count such statements apart). THE CARD IS WHAT COUNTS. Prove the row's statement (the work); the ties are given (YtbifnchjphefeaaDoorTie.lean); close each card by the builder's one call (the guide's Derived/Test/ToyasCard.lean, 'card_holds'). Laid BY PROGRAM, IN A SANDBOX (cutbox-door.mjs). By AI agents, Wed Nov 11 2026. No macro, syntax, notation, axiom, sorry.
-/
import Derived.Test.YtbifnchjphefeaaDoorRows
import GoSem.ClaimSeven
namespace Go.Proofs.YtbifnchjphefeaaDoor
namespace Rows

/-- THE TIED CARD OF 'laws.FnExactGenPath'. -/
def fnExactGenPathCard : Claim7 := { stood := { row := fnExactGenPathRow, standIns := [], harness := (true, "f9921b52bf9e9a2216d243f51857b13de12260ba7bd0bf519306552291fc8888"), looks := false }, kinds := [], alts := [], laidByText := true, laidKinds := [.data, .data, .data], laidTests := true, laidLooks := .later }
def FnExactGenPathCardSaid : Prop := Claim7.holds Tryd.pinned (.plain (OpenSpec.ofChange fnExactGenPathSpec)) fnExactGenPathCard

/-- THE TIED CARD OF 'laws.FnExactRootsText'. -/
def fnExactRootsTextCard : Claim7 := { stood := { row := fnExactRootsTextRow, standIns := [], harness := (true, "f9921b52bf9e9a2216d243f51857b13de12260ba7bd0bf519306552291fc8888"), looks := false }, kinds := [], alts := [], laidByText := true, laidKinds := [.data, .data, .data], laidTests := true, laidLooks := .later }
def FnExactRootsTextCardSaid : Prop := Claim7.holds Tryd.pinned (.plain (OpenSpec.ofChange fnExactRootsTextSpec)) fnExactRootsTextCard

/-- THE TIED CARD OF 'laws.FnExactPackPath'. -/
def fnExactPackPathCard : Claim7 := { stood := { row := fnExactPackPathRow, standIns := [], harness := (true, "f9921b52bf9e9a2216d243f51857b13de12260ba7bd0bf519306552291fc8888"), looks := false }, kinds := [], alts := [], laidByText := true, laidKinds := [.data, .data, .data], laidTests := true, laidLooks := .later }
def FnExactPackPathCardSaid : Prop := Claim7.holds Tryd.pinned (.plain (OpenSpec.ofChange fnExactPackPathSpec)) fnExactPackPathCard

/-- THE TIED CARD OF 'laws.FnExactNewStore'. -/
def fnExactNewStoreCard : Claim7 := { stood := { row := fnExactNewStoreRow, standIns := [], harness := (true, "f9921b52bf9e9a2216d243f51857b13de12260ba7bd0bf519306552291fc8888"), looks := false }, kinds := [], alts := [], laidByText := true, laidKinds := [.data, .data, .data], laidTests := true, laidLooks := .later }
def FnExactNewStoreCardSaid : Prop := Claim7.holds Tryd.pinned (.plain (OpenSpec.ofChange fnExactNewStoreSpec)) fnExactNewStoreCard

/-- THE SECOND FORM's CARD OF 'laws.FnExactGenPath'. -/
def fnExactGenPathUptoCard : Claim7 := { stood := { row := fnExactGenPathUptoRow, standIns := [], harness := (true, "f9921b52bf9e9a2216d243f51857b13de12260ba7bd0bf519306552291fc8888"), looks := false }, kinds := [], alts := [], laidByText := true, laidKinds := [.data, .data, .data], laidTests := true, laidLooks := .later }
def FnExactGenPathUptoCardSaid : Prop := Claim7.holds Tryd.pinned (.plain (OpenSpec.upto fnExactGenPathSpec)) fnExactGenPathUptoCard

/-- THE SECOND FORM's CARD OF 'laws.FnExactRootsText'. -/
def fnExactRootsTextUptoCard : Claim7 := { stood := { row := fnExactRootsTextUptoRow, standIns := [], harness := (true, "f9921b52bf9e9a2216d243f51857b13de12260ba7bd0bf519306552291fc8888"), looks := false }, kinds := [], alts := [], laidByText := true, laidKinds := [.data, .data, .data], laidTests := true, laidLooks := .later }
def FnExactRootsTextUptoCardSaid : Prop := Claim7.holds Tryd.pinned (.plain (OpenSpec.upto fnExactRootsTextSpec)) fnExactRootsTextUptoCard

/-- THE SECOND FORM's CARD OF 'laws.FnExactPackPath'. -/
def fnExactPackPathUptoCard : Claim7 := { stood := { row := fnExactPackPathUptoRow, standIns := [], harness := (true, "f9921b52bf9e9a2216d243f51857b13de12260ba7bd0bf519306552291fc8888"), looks := false }, kinds := [], alts := [], laidByText := true, laidKinds := [.data, .data, .data], laidTests := true, laidLooks := .later }
def FnExactPackPathUptoCardSaid : Prop := Claim7.holds Tryd.pinned (.plain (OpenSpec.upto fnExactPackPathSpec)) fnExactPackPathUptoCard

/-- THE SECOND FORM's CARD OF 'laws.FnExactNewStore'. -/
def fnExactNewStoreUptoCard : Claim7 := { stood := { row := fnExactNewStoreUptoRow, standIns := [], harness := (true, "f9921b52bf9e9a2216d243f51857b13de12260ba7bd0bf519306552291fc8888"), looks := false }, kinds := [], alts := [], laidByText := true, laidKinds := [.data, .data, .data], laidTests := true, laidLooks := .later }
def FnExactNewStoreUptoCardSaid : Prop := Claim7.holds Tryd.pinned (.plain (OpenSpec.upto fnExactNewStoreSpec)) fnExactNewStoreUptoCard
end Rows
end Go.Proofs.YtbifnchjphefeaaDoor

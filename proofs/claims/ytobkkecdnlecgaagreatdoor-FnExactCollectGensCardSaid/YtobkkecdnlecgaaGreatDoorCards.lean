/-
  DERIVED. GIVEN WITH THE SEED: THE CARDS: each row of YtobkkecdnlecgaaGreatDoorRows.lean that lists a variable, with what it lists TIED to the program's text (the seventh form; the later family's looks); each row that meets fmt, with fmt's text TOLD by the authors' own Lean function (tested against real Go, not proved from fmt's source: count such statements apart). THE CARD IS WHAT COUNTS. Prove the row's statement (the work); the ties are given (YtobkkecdnlecgaaGreatDoorTie.lean); close each card by the builder's one call (the guide's Derived/Test/ToyasCard.lean, 'card_holds'). Laid BY PROGRAM, IN A SANDBOX (cutbox-door.mjs). By AI agents, Wed Nov 11 2026. No macro, syntax, notation, axiom, sorry.
-/
import Derived.Test.YtobkkecdnlecgaaGreatDoorRows
import GoSem.ClaimSeven
namespace Go.Proofs.YtobkkecdnlecgaaGreatDoor
namespace Rows

/-- THE TIED CARD OF 'laws.FnExactSystemFault'. -/
def fnExactSystemFaultCard : Claim7 := { stood := { row := fnExactSystemFaultRow, standIns := [], harness := (true, "c3761a928c79443fb9829df117cc113367268b826bfb7410d7f17fd4b697fe3a"), looks := false }, kinds := [], alts := [], laidByText := true, laidKinds := [.data, .data, .data, .data, .pinned], laidTests := true, laidLooks := .later }
def FnExactSystemFaultCardSaid : Prop := Claim7.holds Tryz.pinned (.plain (OpenSpec.ofChange fnExactSystemFaultSpec)) fnExactSystemFaultCard

/-- THE TIED CARD OF 'laws.FnExactCollectGens'. -/
def fnExactCollectGensCard : Claim7 := { stood := { row := fnExactCollectGensRow, standIns := [], harness := (true, "c3761a928c79443fb9829df117cc113367268b826bfb7410d7f17fd4b697fe3a"), looks := false }, kinds := [], alts := [], laidByText := true, laidKinds := [.data, .data, .data, .data, .pinned], laidTests := true, laidLooks := .later }
def FnExactCollectGensCardSaid : Prop := Claim7.holds Tryz.pinned (.plain (OpenSpec.ofChange fnExactCollectGensSpec)) fnExactCollectGensCard

/-- THE TIED CARD OF 'laws.FnExactRollbackTo'. -/
def fnExactRollbackToCard : Claim7 := { stood := { row := fnExactRollbackToRow, standIns := [], harness := (true, "c3761a928c79443fb9829df117cc113367268b826bfb7410d7f17fd4b697fe3a"), looks := false }, kinds := [], alts := [], laidByText := true, laidKinds := [.data, .data, .data, .data, .pinned], laidTests := true, laidLooks := .later }
def FnExactRollbackToCardSaid : Prop := Claim7.holds Tryz.pinned (.plain (OpenSpec.ofChange fnExactRollbackToSpec)) fnExactRollbackToCard

/-- THE TIED CARD OF 'laws.FnExactShownOf'. -/
def fnExactShownOfCard : Claim7 := { stood := { row := fnExactShownOfRow, standIns := [], harness := (true, "c3761a928c79443fb9829df117cc113367268b826bfb7410d7f17fd4b697fe3a"), looks := false }, kinds := [], alts := [], laidByText := true, laidKinds := [.data, .data, .data, .data, .pinned], laidTests := true, laidLooks := .later }
def FnExactShownOfCardSaid : Prop := Claim7.holds Tryz.pinned (.plain (OpenSpec.ofChange fnExactShownOfSpec)) fnExactShownOfCard

/-- THE TIED CARD OF 'laws.FnExactCutSystem'. -/
def fnExactCutSystemCard : Claim7 := { stood := { row := fnExactCutSystemRow, standIns := [], harness := (true, "c3761a928c79443fb9829df117cc113367268b826bfb7410d7f17fd4b697fe3a"), looks := false }, kinds := [], alts := [], laidByText := true, laidKinds := [.data, .data, .data, .data, .pinned], laidTests := true, laidLooks := .later }
def FnExactCutSystemCardSaid : Prop := Claim7.holds Tryz.pinned (.plain (OpenSpec.ofChange fnExactCutSystemSpec)) fnExactCutSystemCard

/-- THE SECOND FORM's CARD OF 'laws.FnExactSystemFault'. -/
def fnExactSystemFaultUptoCard : Claim7 := { stood := { row := fnExactSystemFaultUptoRow, standIns := [], harness := (true, "c3761a928c79443fb9829df117cc113367268b826bfb7410d7f17fd4b697fe3a"), looks := false }, kinds := [], alts := [], laidByText := true, laidKinds := [.data, .data, .data, .data, .pinned], laidTests := true, laidLooks := .later }
def FnExactSystemFaultUptoCardSaid : Prop := Claim7.holds Tryz.pinned (.plain (OpenSpec.upto fnExactSystemFaultSpec)) fnExactSystemFaultUptoCard

/-- THE SECOND FORM's CARD OF 'laws.FnExactCollectGens'. -/
def fnExactCollectGensUptoCard : Claim7 := { stood := { row := fnExactCollectGensUptoRow, standIns := [], harness := (true, "c3761a928c79443fb9829df117cc113367268b826bfb7410d7f17fd4b697fe3a"), looks := false }, kinds := [], alts := [], laidByText := true, laidKinds := [.data, .data, .data, .data, .pinned], laidTests := true, laidLooks := .later }
def FnExactCollectGensUptoCardSaid : Prop := Claim7.holds Tryz.pinned (.plain (OpenSpec.upto fnExactCollectGensSpec)) fnExactCollectGensUptoCard

/-- THE SECOND FORM's CARD OF 'laws.FnExactRollbackTo'. -/
def fnExactRollbackToUptoCard : Claim7 := { stood := { row := fnExactRollbackToUptoRow, standIns := [], harness := (true, "c3761a928c79443fb9829df117cc113367268b826bfb7410d7f17fd4b697fe3a"), looks := false }, kinds := [], alts := [], laidByText := true, laidKinds := [.data, .data, .data, .data, .pinned], laidTests := true, laidLooks := .later }
def FnExactRollbackToUptoCardSaid : Prop := Claim7.holds Tryz.pinned (.plain (OpenSpec.upto fnExactRollbackToSpec)) fnExactRollbackToUptoCard

/-- THE SECOND FORM's CARD OF 'laws.FnExactShownOf'. -/
def fnExactShownOfUptoCard : Claim7 := { stood := { row := fnExactShownOfUptoRow, standIns := [], harness := (true, "c3761a928c79443fb9829df117cc113367268b826bfb7410d7f17fd4b697fe3a"), looks := false }, kinds := [], alts := [], laidByText := true, laidKinds := [.data, .data, .data, .data, .pinned], laidTests := true, laidLooks := .later }
def FnExactShownOfUptoCardSaid : Prop := Claim7.holds Tryz.pinned (.plain (OpenSpec.upto fnExactShownOfSpec)) fnExactShownOfUptoCard

/-- THE SECOND FORM's CARD OF 'laws.FnExactCutSystem'. -/
def fnExactCutSystemUptoCard : Claim7 := { stood := { row := fnExactCutSystemUptoRow, standIns := [], harness := (true, "c3761a928c79443fb9829df117cc113367268b826bfb7410d7f17fd4b697fe3a"), looks := false }, kinds := [], alts := [], laidByText := true, laidKinds := [.data, .data, .data, .data, .pinned], laidTests := true, laidLooks := .later }
def FnExactCutSystemUptoCardSaid : Prop := Claim7.holds Tryz.pinned (.plain (OpenSpec.upto fnExactCutSystemSpec)) fnExactCutSystemUptoCard
end Rows
end Go.Proofs.YtobkkecdnlecgaaGreatDoor

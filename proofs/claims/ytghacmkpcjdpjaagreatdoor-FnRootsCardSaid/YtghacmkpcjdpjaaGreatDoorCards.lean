/-
  DERIVED. GIVEN WITH THE SEED: THE CARDS: each row of YtghacmkpcjdpjaaGreatDoorRows.lean that lists a variable, with what it lists TIED to the program's text (the seventh form; the later family's looks); each row that meets fmt, with fmt's text TOLD by the authors' own Lean function (tested against real Go, not proved from fmt's source: count such statements apart). THE CARD IS WHAT COUNTS. Prove the row's statement (the work); the ties are given (YtghacmkpcjdpjaaGreatDoorTie.lean); close each card by the builder's one call (the guide's Derived/Test/ToyasCard.lean, 'card_holds'). Laid BY PROGRAM, IN A SANDBOX (cutbox-door.mjs). By AI agents, Wed Nov 11 2026. No macro, syntax, notation, axiom, sorry.
-/
import Derived.Test.YtghacmkpcjdpjaaGreatDoorRows
import GoSem.ClaimSeven
namespace Go.Proofs.YtghacmkpcjdpjaaGreatDoor
namespace Rows

/-- THE TIED CARD OF 'laws.FnRoots'. -/
def fnRootsCard : Claim7 := { stood := { row := fnRootsRow, standIns := [], harness := (true, "601cfa1278eea285182bd7c5c4c2a9bf274e0d1ca23d5d60d58d8c47ebdb3f44"), looks := false }, kinds := [], alts := [], laidByText := true, laidKinds := [.data, .data, .data, .data, .pinned], laidTests := true, laidLooks := .later }
def FnRootsCardSaid : Prop := Claim7.holds Tryz.pinned (.plain (OpenSpec.ofChange fnRootsSpec)) fnRootsCard

/-- THE TIED CARD OF 'laws.FnExactRunBatch'. -/
def fnExactRunBatchCard : Claim7 := { stood := { row := fnExactRunBatchRow, standIns := [], harness := (true, "601cfa1278eea285182bd7c5c4c2a9bf274e0d1ca23d5d60d58d8c47ebdb3f44"), looks := false }, kinds := [], alts := [], laidByText := true, laidKinds := [.data, .data, .data], laidTests := true, laidLooks := .later }
def FnExactRunBatchCardSaid : Prop := Claim7.holds Tryz.pinned (.plain (OpenSpec.ofChange fnExactRunBatchSpec)) fnExactRunBatchCard

/-- THE SECOND FORM's CARD OF 'laws.FnRoots'. -/
def fnRootsUptoCard : Claim7 := { stood := { row := fnRootsUptoRow, standIns := [], harness := (true, "601cfa1278eea285182bd7c5c4c2a9bf274e0d1ca23d5d60d58d8c47ebdb3f44"), looks := false }, kinds := [], alts := [], laidByText := true, laidKinds := [.data, .data, .data, .data, .pinned], laidTests := true, laidLooks := .later }
def FnRootsUptoCardSaid : Prop := Claim7.holds Tryz.pinned (.plain (OpenSpec.upto fnRootsSpec)) fnRootsUptoCard

/-- THE SECOND FORM's CARD OF 'laws.FnExactRunBatch'. -/
def fnExactRunBatchUptoCard : Claim7 := { stood := { row := fnExactRunBatchUptoRow, standIns := [], harness := (true, "601cfa1278eea285182bd7c5c4c2a9bf274e0d1ca23d5d60d58d8c47ebdb3f44"), looks := false }, kinds := [], alts := [], laidByText := true, laidKinds := [.data, .data, .data], laidTests := true, laidLooks := .later }
def FnExactRunBatchUptoCardSaid : Prop := Claim7.holds Tryz.pinned (.plain (OpenSpec.upto fnExactRunBatchSpec)) fnExactRunBatchUptoCard
end Rows
end Go.Proofs.YtghacmkpcjdpjaaGreatDoor

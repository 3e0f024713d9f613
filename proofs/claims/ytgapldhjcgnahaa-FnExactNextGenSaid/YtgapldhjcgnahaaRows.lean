/-
  No cell of these rows narrows 'for every input' (looked for: loops, veiled, ifaces, maps, wideKeys, modest, calm, conditions, laid).
  DERIVED. THE GIVEN ROWS OF THIS SEAT. 3 by the template 'for every input the law returns true; each argument reads behind the call as it read before'; 0 by the template 'total and deterministic' (their statements: YtgapldhjcgnahaaTotals.lean).
  GIVEN WITH THE SEED: the statements are not yours to turn. If you find one false, say at which input.
  Laid BY PROGRAM, IN A SANDBOX (cutbox-rows.mjs): the forced cells as the released guide's own fill.sh prints them over the translation be8ed59e963a71e1… (all of the seat's roots in one cut). By AI agents, Wed Nov 11 2026. No macro, syntax, notation, axiom, sorry.
-/
import Derived.Test.YtgapldhjcgnahaaChecked
import GoSem.Claim
import GoSem.ClaimJoined
import GoSem.ClaimMapViews
import Derived.JoinedTies
import Derived.KernelRfl
namespace Go.Proofs.Ytgapldhjcgnahaa
/- THE CELL 'sum', in the pinned program and in every row, IS THE sha256 OF THE DUMP (.gsa) THAT YtgapldhjcgnahaaProg.lean LOADS. Nothing in Lean hashes anything: it is a label: what it is worth is what the hold of that sum in a sandbox is worth. -/
noncomputable def Try.pinned : Pinned := { name := "ytgapldhjcgnahaa", sum := "be8ed59e963a71e1ffb761ea44c42ee22f05ec7e0164799524c2ab4a7cb17eb7", checked := Try.checked }
namespace Rows
def none {H : Type} : Left H := { results := [], args := [] }

/-- 'laws.FnExactTotalOf': WHATEVER THE INPUT: true; the input reads as it did. -/
def fnExactTotalOfSpec : ChangeSpec := { name := "fnExactTotalOf", fn := fun _ => fun
  | [d] => { results := [.lit (.bool true)], args := [d] }
  | _ => none }
def fnExactTotalOfRow : OpenClaim := { program := "ytgapldhjcgnahaa", sum := "be8ed59e963a71e1ffb761ea44c42ee22f05ec7e0164799524c2ab4a7cb17eb7", func := "loop.example/g00090/laws.FnExactTotalOf", spec := "fnExactTotalOf", apart := false }
def FnExactTotalOfSaid : Prop := fnExactTotalOfRow.holds Try.pinned (OpenSpec.ofChange fnExactTotalOfSpec)

/-- ITS FALSE NEIGHBOUR: 'it returns false'. Refute it at one input. -/
def fnExactTotalOfWrong : ChangeSpec := { name := "fnExactTotalOf", fn := fun _ => fun
  | [d] => { results := [.lit (.bool false)], args := [d] }
  | _ => none }
def FnExactTotalOfWrongFalsely : Prop := fnExactTotalOfRow.holds Try.pinned (OpenSpec.ofChange fnExactTotalOfWrong)

/-- 'laws.FnExactCurrentGen': WHATEVER THE INPUT: true; the input reads as it did. -/
def fnExactCurrentGenSpec : ChangeSpec := { name := "fnExactCurrentGen", fn := fun _ => fun
  | [d] => { results := [.lit (.bool true)], args := [d] }
  | _ => none }
def fnExactCurrentGenRow : OpenClaim := { program := "ytgapldhjcgnahaa", sum := "be8ed59e963a71e1ffb761ea44c42ee22f05ec7e0164799524c2ab4a7cb17eb7", func := "loop.example/g00090/laws.FnExactCurrentGen", spec := "fnExactCurrentGen", inPlace := ["internal/bytealg.abigen_runtime_cmpstring"], unfollowed := true, recurses := true, apart := false }
def FnExactCurrentGenSaid : Prop := fnExactCurrentGenRow.holds Try.pinned (OpenSpec.ofChange fnExactCurrentGenSpec)

/-- ITS FALSE NEIGHBOUR: 'it returns false'. Refute it at one input. -/
def fnExactCurrentGenWrong : ChangeSpec := { name := "fnExactCurrentGen", fn := fun _ => fun
  | [d] => { results := [.lit (.bool false)], args := [d] }
  | _ => none }
def FnExactCurrentGenWrongFalsely : Prop := fnExactCurrentGenRow.holds Try.pinned (OpenSpec.ofChange fnExactCurrentGenWrong)

/-- 'laws.FnExactNextGen': WHATEVER THE INPUT: true; the input reads as it did. -/
def fnExactNextGenSpec : ChangeSpec := { name := "fnExactNextGen", fn := fun _ => fun
  | [d] => { results := [.lit (.bool true)], args := [d] }
  | _ => none }
def fnExactNextGenRow : OpenClaim := { program := "ytgapldhjcgnahaa", sum := "be8ed59e963a71e1ffb761ea44c42ee22f05ec7e0164799524c2ab4a7cb17eb7", func := "loop.example/g00090/laws.FnExactNextGen", spec := "fnExactNextGen", recurses := true, apart := false }
def FnExactNextGenSaid : Prop := fnExactNextGenRow.holds Try.pinned (OpenSpec.ofChange fnExactNextGenSpec)

/-- ITS FALSE NEIGHBOUR: 'it returns false'. Refute it at one input. -/
def fnExactNextGenWrong : ChangeSpec := { name := "fnExactNextGen", fn := fun _ => fun
  | [d] => { results := [.lit (.bool false)], args := [d] }
  | _ => none }
def FnExactNextGenWrongFalsely : Prop := fnExactNextGenRow.holds Try.pinned (OpenSpec.ofChange fnExactNextGenWrong)

/- THE SECOND FORM. 'bulk': how many values and letters a reading holds, each counted each time it is reached (what is shared counts as often as it is met; a slice's spare places count too). A statement '..UptoSaid' is the law's where the arguments, and the package variables that the reading takes, are together of bulk at most 1048576: NARROWER than '..Said'. Prove '..Said' where nothing that the law and all that it calls make is longer than what came in: it says more and counts as full. Else prove '..UptoSaid'. A law counts once. -/
mutual
def uptoBulk {H : Type} : DataW H → Nat
  | .lit (.string bytes) => bytes.length + 1
  | .lit _ => 1
  | .nil => 1
  | .ptr d => uptoBulk d + 1
  | .slice elems spare => uptoBulkAll elems + uptoBulkAll spare + 1
  | .agg parts => uptoBulkAll parts + 1
  | .iface _ d => uptoBulk d + 1
  | .map entries => uptoBulkEntries entries + 1
  | .held _ => 1
def uptoBulkAll {H : Type} : List (DataW H) → Nat
  | [] => 0
  | d :: r => uptoBulk d + uptoBulkAll r
def uptoBulkEntries {H : Type} : List (Lit × DataW H) → Nat
  | [] => 0
  | x :: r => uptoBulkEntry x + uptoBulkEntries r
def uptoBulkEntry {H : Type} : Lit × DataW H → Nat
  | (.string bytes, d) => bytes.length + uptoBulk d + 1
  | (_, d) => uptoBulk d + 1
 end
def uptoSmall : (H : Type) → List (DataW H) → Bool := fun _ ds => decide (uptoBulkAll ds ≤ 1048576)
def OpenSpec.upto (s : _root_.Go.ChangeSpec) : _root_.Go.OpenSpec := { _root_.Go.OpenSpec.ofChange s with cond := some uptoSmall }

/-- 'laws.FnExactTotalOf', WHERE WHAT IT READS IS OF BULK AT MOST 1048576: true; the input reads as it did. -/
def fnExactTotalOfUptoRow : OpenClaim := { program := "ytgapldhjcgnahaa", sum := "be8ed59e963a71e1ffb761ea44c42ee22f05ec7e0164799524c2ab4a7cb17eb7", func := "loop.example/g00090/laws.FnExactTotalOf", spec := "fnExactTotalOf", apart := false, narrowed := true }
def FnExactTotalOfUptoSaid : Prop := fnExactTotalOfUptoRow.holds Try.pinned (OpenSpec.upto fnExactTotalOfSpec)

/-- 'laws.FnExactCurrentGen', WHERE WHAT IT READS IS OF BULK AT MOST 1048576: true; the input reads as it did. -/
def fnExactCurrentGenUptoRow : OpenClaim := { program := "ytgapldhjcgnahaa", sum := "be8ed59e963a71e1ffb761ea44c42ee22f05ec7e0164799524c2ab4a7cb17eb7", func := "loop.example/g00090/laws.FnExactCurrentGen", spec := "fnExactCurrentGen", inPlace := ["internal/bytealg.abigen_runtime_cmpstring"], unfollowed := true, recurses := true, apart := false, narrowed := true }
def FnExactCurrentGenUptoSaid : Prop := fnExactCurrentGenUptoRow.holds Try.pinned (OpenSpec.upto fnExactCurrentGenSpec)

/-- 'laws.FnExactNextGen', WHERE WHAT IT READS IS OF BULK AT MOST 1048576: true; the input reads as it did. -/
def fnExactNextGenUptoRow : OpenClaim := { program := "ytgapldhjcgnahaa", sum := "be8ed59e963a71e1ffb761ea44c42ee22f05ec7e0164799524c2ab4a7cb17eb7", func := "loop.example/g00090/laws.FnExactNextGen", spec := "fnExactNextGen", recurses := true, apart := false, narrowed := true }
def FnExactNextGenUptoSaid : Prop := fnExactNextGenUptoRow.holds Try.pinned (OpenSpec.upto fnExactNextGenSpec)

end Rows
end Go.Proofs.Ytgapldhjcgnahaa

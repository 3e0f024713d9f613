/-
  No cell of these rows narrows 'for every input' (looked for: loops, veiled, ifaces, maps, wideKeys, modest, calm, conditions, laid).
  DERIVED. THE GIVEN ROWS OF THIS SEAT. 5 by the template 'for every input the law returns true; each argument reads behind the call as it read before'; 0 by the template 'total and deterministic' (their statements: YtiafikjlfeibhaaTotals.lean).
  GIVEN WITH THE SEED: the statements are not yours to turn. If you find one false, say at which input.
  Laid BY PROGRAM, IN A SANDBOX (cutbox-rows.mjs): the forced cells as the released guide's own fill.sh prints them over the translation 6c12d3b05a16f0e9… (all of the seat's roots in one cut). By AI agents, Wed Nov 11 2026. No macro, syntax, notation, axiom, sorry.
-/
import Derived.Test.YtiafikjlfeibhaaChecked
import GoSem.Claim
import GoSem.ClaimJoined
import GoSem.ClaimMapViews
import Derived.JoinedTies
import Derived.KernelRfl
namespace Go.Proofs.Ytiafikjlfeibhaa
/- THE CELL 'sum', in the pinned program and in every row, IS THE sha256 OF THE DUMP (.gsa) THAT YtiafikjlfeibhaaProg.lean LOADS. Nothing in Lean hashes anything: it is a label: what it is worth is what the hold of that sum in a sandbox is worth. -/
noncomputable def Try.pinned : Pinned := { name := "ytiafikjlfeibhaa", sum := "6c12d3b05a16f0e96e35df79adada1a41f0e51bd8e95873ccc38e9399210a63d", checked := Try.checked }
namespace Rows
def none {H : Type} : Left H := { results := [], args := [] }

/-- 'laws.FnExactPathFault': WHATEVER THE INPUT: true; the input reads as it did. -/
def fnExactPathFaultSpec : ChangeSpec := { name := "fnExactPathFault", fn := fun _ => fun
  | [d] => { results := [.lit (.bool true)], args := [d] }
  | _ => none }
def fnExactPathFaultRow : OpenClaim := { program := "ytiafikjlfeibhaa", sum := "6c12d3b05a16f0e96e35df79adada1a41f0e51bd8e95873ccc38e9399210a63d", func := "loop.example/g00090/laws.FnExactPathFault", spec := "fnExactPathFault", apart := false }
def FnExactPathFaultSaid : Prop := fnExactPathFaultRow.holds Try.pinned (OpenSpec.ofChange fnExactPathFaultSpec)

/-- ITS FALSE NEIGHBOUR: 'it returns false'. Refute it at one input. -/
def fnExactPathFaultWrong : ChangeSpec := { name := "fnExactPathFault", fn := fun _ => fun
  | [d] => { results := [.lit (.bool false)], args := [d] }
  | _ => none }
def FnExactPathFaultWrongFalsely : Prop := fnExactPathFaultRow.holds Try.pinned (OpenSpec.ofChange fnExactPathFaultWrong)

/-- 'laws.FnExactEmptyDisk': WHATEVER THE INPUT: true; the input reads as it did. -/
def fnExactEmptyDiskSpec : ChangeSpec := { name := "fnExactEmptyDisk", fn := fun _ => fun
  | [d] => { results := [.lit (.bool true)], args := [d] }
  | _ => none }
def fnExactEmptyDiskRow : OpenClaim := { program := "ytiafikjlfeibhaa", sum := "6c12d3b05a16f0e96e35df79adada1a41f0e51bd8e95873ccc38e9399210a63d", func := "loop.example/g00090/laws.FnExactEmptyDisk", spec := "fnExactEmptyDisk", apart := false }
def FnExactEmptyDiskSaid : Prop := fnExactEmptyDiskRow.holds Try.pinned (OpenSpec.ofChange fnExactEmptyDiskSpec)

/-- ITS FALSE NEIGHBOUR: 'it returns false'. Refute it at one input. -/
def fnExactEmptyDiskWrong : ChangeSpec := { name := "fnExactEmptyDisk", fn := fun _ => fun
  | [d] => { results := [.lit (.bool false)], args := [d] }
  | _ => none }
def FnExactEmptyDiskWrongFalsely : Prop := fnExactEmptyDiskRow.holds Try.pinned (OpenSpec.ofChange fnExactEmptyDiskWrong)

/-- 'laws.FnExactAsksWith': WHATEVER THE INPUT: true; the input reads as it did. -/
def fnExactAsksWithSpec : ChangeSpec := { name := "fnExactAsksWith", fn := fun _ => fun
  | [d1, d2] => { results := [.lit (.bool true)], args := [d1, d2] }
  | _ => none }
def fnExactAsksWithRow : OpenClaim := { program := "ytiafikjlfeibhaa", sum := "6c12d3b05a16f0e96e35df79adada1a41f0e51bd8e95873ccc38e9399210a63d", func := "loop.example/g00090/laws.FnExactAsksWith", spec := "fnExactAsksWith", apart := false }
def FnExactAsksWithSaid : Prop := fnExactAsksWithRow.holds Try.pinned (OpenSpec.ofChange fnExactAsksWithSpec)

/-- ITS FALSE NEIGHBOUR: 'it returns false'. Refute it at one input. -/
def fnExactAsksWithWrong : ChangeSpec := { name := "fnExactAsksWith", fn := fun _ => fun
  | [d1, d2] => { results := [.lit (.bool false)], args := [d1, d2] }
  | _ => none }
def FnExactAsksWithWrongFalsely : Prop := fnExactAsksWithRow.holds Try.pinned (OpenSpec.ofChange fnExactAsksWithWrong)

/-- 'laws.FnExactAsksWithout': WHATEVER THE INPUT: true; the input reads as it did. -/
def fnExactAsksWithoutSpec : ChangeSpec := { name := "fnExactAsksWithout", fn := fun _ => fun
  | [d1, d2] => { results := [.lit (.bool true)], args := [d1, d2] }
  | _ => none }
def fnExactAsksWithoutRow : OpenClaim := { program := "ytiafikjlfeibhaa", sum := "6c12d3b05a16f0e96e35df79adada1a41f0e51bd8e95873ccc38e9399210a63d", func := "loop.example/g00090/laws.FnExactAsksWithout", spec := "fnExactAsksWithout", unfollowed := true, recurses := true, apart := false }
def FnExactAsksWithoutSaid : Prop := fnExactAsksWithoutRow.holds Try.pinned (OpenSpec.ofChange fnExactAsksWithoutSpec)

/-- ITS FALSE NEIGHBOUR: 'it returns false'. Refute it at one input. -/
def fnExactAsksWithoutWrong : ChangeSpec := { name := "fnExactAsksWithout", fn := fun _ => fun
  | [d1, d2] => { results := [.lit (.bool false)], args := [d1, d2] }
  | _ => none }
def FnExactAsksWithoutWrongFalsely : Prop := fnExactAsksWithoutRow.holds Try.pinned (OpenSpec.ofChange fnExactAsksWithoutWrong)

/-- 'laws.FnExactDiskFault': WHATEVER THE INPUT: true; the input reads as it did. -/
def fnExactDiskFaultSpec : ChangeSpec := { name := "fnExactDiskFault", fn := fun _ => fun
  | [d] => { results := [.lit (.bool true)], args := [d] }
  | _ => none }
def fnExactDiskFaultRow : OpenClaim := { program := "ytiafikjlfeibhaa", sum := "6c12d3b05a16f0e96e35df79adada1a41f0e51bd8e95873ccc38e9399210a63d", func := "loop.example/g00090/laws.FnExactDiskFault", spec := "fnExactDiskFault", apart := false }
def FnExactDiskFaultSaid : Prop := fnExactDiskFaultRow.holds Try.pinned (OpenSpec.ofChange fnExactDiskFaultSpec)

/-- ITS FALSE NEIGHBOUR: 'it returns false'. Refute it at one input. -/
def fnExactDiskFaultWrong : ChangeSpec := { name := "fnExactDiskFault", fn := fun _ => fun
  | [d] => { results := [.lit (.bool false)], args := [d] }
  | _ => none }
def FnExactDiskFaultWrongFalsely : Prop := fnExactDiskFaultRow.holds Try.pinned (OpenSpec.ofChange fnExactDiskFaultWrong)

/- THE SECOND FORM. 'bulk': how many values and letters a reading holds, each counted each time it is reached (what is shared counts as often as it is met; a slice's spare places count too). A statement '..UptoSaid' is the law's where the arguments, and the package variables that the reading takes, are together of bulk at most 1048576: NARROWER than '..Said'. Prove '..Said' where nothing that the law and all that it calls make is longer than what came in: it says more and counts as full. Else prove '..UptoSaid'. A law counts once. -/
mutual
def uptoBulk {H : Type} : DataW H → Nat
  | .lit (.string bytes) => bytes.length + 1
  | .lit _ => 1
  | .nil => 1
  | .ptr d => uptoBulk d + 1
  | .slice elems spare => uptoBulkAll elems + uptoBulkAll spare + 1
  | .agg parts => uptoBulkAll parts + 1
  | .iface _ d => uptoBulk d + 1
  | .map entries => uptoBulkEntries entries + 1
  | .held _ => 1
def uptoBulkAll {H : Type} : List (DataW H) → Nat
  | [] => 0
  | d :: r => uptoBulk d + uptoBulkAll r
def uptoBulkEntries {H : Type} : List (Lit × DataW H) → Nat
  | [] => 0
  | x :: r => uptoBulkEntry x + uptoBulkEntries r
def uptoBulkEntry {H : Type} : Lit × DataW H → Nat
  | (.string bytes, d) => bytes.length + uptoBulk d + 1
  | (_, d) => uptoBulk d + 1
 end
def uptoSmall : (H : Type) → List (DataW H) → Bool := fun _ ds => decide (uptoBulkAll ds ≤ 1048576)
def OpenSpec.upto (s : _root_.Go.ChangeSpec) : _root_.Go.OpenSpec := { _root_.Go.OpenSpec.ofChange s with cond := some uptoSmall }

/-- 'laws.FnExactPathFault', WHERE WHAT IT READS IS OF BULK AT MOST 1048576: true; the input reads as it did. -/
def fnExactPathFaultUptoRow : OpenClaim := { program := "ytiafikjlfeibhaa", sum := "6c12d3b05a16f0e96e35df79adada1a41f0e51bd8e95873ccc38e9399210a63d", func := "loop.example/g00090/laws.FnExactPathFault", spec := "fnExactPathFault", apart := false, narrowed := true }
def FnExactPathFaultUptoSaid : Prop := fnExactPathFaultUptoRow.holds Try.pinned (OpenSpec.upto fnExactPathFaultSpec)

/-- 'laws.FnExactEmptyDisk', WHERE WHAT IT READS IS OF BULK AT MOST 1048576: true; the input reads as it did. -/
def fnExactEmptyDiskUptoRow : OpenClaim := { program := "ytiafikjlfeibhaa", sum := "6c12d3b05a16f0e96e35df79adada1a41f0e51bd8e95873ccc38e9399210a63d", func := "loop.example/g00090/laws.FnExactEmptyDisk", spec := "fnExactEmptyDisk", apart := false, narrowed := true }
def FnExactEmptyDiskUptoSaid : Prop := fnExactEmptyDiskUptoRow.holds Try.pinned (OpenSpec.upto fnExactEmptyDiskSpec)

/-- 'laws.FnExactAsksWith', WHERE WHAT IT READS IS OF BULK AT MOST 1048576: true; the input reads as it did. -/
def fnExactAsksWithUptoRow : OpenClaim := { program := "ytiafikjlfeibhaa", sum := "6c12d3b05a16f0e96e35df79adada1a41f0e51bd8e95873ccc38e9399210a63d", func := "loop.example/g00090/laws.FnExactAsksWith", spec := "fnExactAsksWith", apart := false, narrowed := true }
def FnExactAsksWithUptoSaid : Prop := fnExactAsksWithUptoRow.holds Try.pinned (OpenSpec.upto fnExactAsksWithSpec)

/-- 'laws.FnExactAsksWithout', WHERE WHAT IT READS IS OF BULK AT MOST 1048576: true; the input reads as it did. -/
def fnExactAsksWithoutUptoRow : OpenClaim := { program := "ytiafikjlfeibhaa", sum := "6c12d3b05a16f0e96e35df79adada1a41f0e51bd8e95873ccc38e9399210a63d", func := "loop.example/g00090/laws.FnExactAsksWithout", spec := "fnExactAsksWithout", unfollowed := true, recurses := true, apart := false, narrowed := true }
def FnExactAsksWithoutUptoSaid : Prop := fnExactAsksWithoutUptoRow.holds Try.pinned (OpenSpec.upto fnExactAsksWithoutSpec)

/-- 'laws.FnExactDiskFault', WHERE WHAT IT READS IS OF BULK AT MOST 1048576: true; the input reads as it did. -/
def fnExactDiskFaultUptoRow : OpenClaim := { program := "ytiafikjlfeibhaa", sum := "6c12d3b05a16f0e96e35df79adada1a41f0e51bd8e95873ccc38e9399210a63d", func := "loop.example/g00090/laws.FnExactDiskFault", spec := "fnExactDiskFault", apart := false, narrowed := true }
def FnExactDiskFaultUptoSaid : Prop := fnExactDiskFaultUptoRow.holds Try.pinned (OpenSpec.upto fnExactDiskFaultSpec)

end Rows
end Go.Proofs.Ytiafikjlfeibhaa

/-
  No cell of these rows narrows 'for every input' (looked for: loops, veiled, ifaces, maps, wideKeys, modest, calm, conditions, laid).
  DERIVED. THE GIVEN ROWS OF THIS SEAT. 3 by the template 'for every input the law returns true; each argument reads behind the call as it read before'; 0 by the template 'total and deterministic' (their statements: YtoofajgeacebgaaGreatTotals.lean).
  GIVEN WITH THE SEED: the statements are not yours to turn. If you find one false, say at which input.
  Laid BY PROGRAM, IN A SANDBOX (cutbox-rows.mjs): the forced cells as the released guide's own fill.sh prints them over the translation 1d5eae265fb84e77… (all of the seat's roots in one cut). By AI agents, Wed Nov 11 2026. No macro, syntax, notation, axiom, sorry.
-/
import Derived.Test.YtoofajgeacebgaaGreatChecked
import GoSem.Claim
import GoSem.ClaimJoined
import GoSem.ClaimMapViews
import Derived.JoinedTies
import Derived.KernelRfl
namespace Go.Proofs.YtoofajgeacebgaaGreat
/- THE CELL 'sum', in the pinned program and in every row, IS THE sha256 OF THE DUMP (.gsa) THAT YtoofajgeacebgaaGreatProg.lean LOADS. Nothing in Lean hashes anything: it is a label: what it is worth is what the hold of that sum in a sandbox is worth. -/
noncomputable def Tryz.pinned : Pinned := { name := "ytoofajgeacebgaagreat", sum := "1d5eae265fb84e779ff866650e5420becd0788432f72fe59e3bcbef62501a263", checked := Tryz.checked }
namespace Rows
def none {H : Type} : Left H := { results := [], args := [] }

/-- 'laws.FnExactLeastSteps': WHATEVER THE INPUT: true; the input reads as it did. -/
def fnExactLeastStepsSpec : ChangeSpec := { name := "fnExactLeastSteps", fn := fun _ => fun
  | [d1, d2, d3] => { results := [.lit (.bool true)], args := [d1, d2, d3] }
  | _ => none }
def fnExactLeastStepsRow : OpenClaim := { program := "ytoofajgeacebgaagreat", sum := "1d5eae265fb84e779ff866650e5420becd0788432f72fe59e3bcbef62501a263", func := "loop.example/g00090/laws.FnExactLeastSteps", spec := "fnExactLeastSteps", unfollowed := true, recurses := true, apart := false }
def FnExactLeastStepsSaid : Prop := fnExactLeastStepsRow.holds Tryz.pinned (OpenSpec.ofChange fnExactLeastStepsSpec)

/-- ITS FALSE NEIGHBOUR: 'it returns false'. Refute it at one input. -/
def fnExactLeastStepsWrong : ChangeSpec := { name := "fnExactLeastSteps", fn := fun _ => fun
  | [d1, d2, d3] => { results := [.lit (.bool false)], args := [d1, d2, d3] }
  | _ => none }
def FnExactLeastStepsWrongFalsely : Prop := fnExactLeastStepsRow.holds Tryz.pinned (OpenSpec.ofChange fnExactLeastStepsWrong)

/-- 'laws.FnExactBatchesOf': WHATEVER THE INPUT: true; the input reads as it did. -/
def fnExactBatchesOfSpec : ChangeSpec := { name := "fnExactBatchesOf", fn := fun _ => fun
  | [d1, d2, d3] => { results := [.lit (.bool true)], args := [d1, d2, d3] }
  | _ => none }
def fnExactBatchesOfRow : OpenClaim := { program := "ytoofajgeacebgaagreat", sum := "1d5eae265fb84e779ff866650e5420becd0788432f72fe59e3bcbef62501a263", func := "loop.example/g00090/laws.FnExactBatchesOf", spec := "fnExactBatchesOf", unfollowed := true, recurses := true, apart := false }
def FnExactBatchesOfSaid : Prop := fnExactBatchesOfRow.holds Tryz.pinned (OpenSpec.ofChange fnExactBatchesOfSpec)

/-- ITS FALSE NEIGHBOUR: 'it returns false'. Refute it at one input. -/
def fnExactBatchesOfWrong : ChangeSpec := { name := "fnExactBatchesOf", fn := fun _ => fun
  | [d1, d2, d3] => { results := [.lit (.bool false)], args := [d1, d2, d3] }
  | _ => none }
def FnExactBatchesOfWrongFalsely : Prop := fnExactBatchesOfRow.holds Tryz.pinned (OpenSpec.ofChange fnExactBatchesOfWrong)

/-- 'laws.FnExactPlanOf': WHATEVER THE INPUT: true; the input reads as it did. -/
def fnExactPlanOfSpec : ChangeSpec := { name := "fnExactPlanOf", fn := fun _ => fun
  | [d1, d2, d3] => { results := [.lit (.bool true)], args := [d1, d2, d3] }
  | _ => none }
def fnExactPlanOfRow : OpenClaim := { program := "ytoofajgeacebgaagreat", sum := "1d5eae265fb84e779ff866650e5420becd0788432f72fe59e3bcbef62501a263", func := "loop.example/g00090/laws.FnExactPlanOf", spec := "fnExactPlanOf", unfollowed := true, recurses := true, apart := false }
def FnExactPlanOfSaid : Prop := fnExactPlanOfRow.holds Tryz.pinned (OpenSpec.ofChange fnExactPlanOfSpec)

/-- ITS FALSE NEIGHBOUR: 'it returns false'. Refute it at one input. -/
def fnExactPlanOfWrong : ChangeSpec := { name := "fnExactPlanOf", fn := fun _ => fun
  | [d1, d2, d3] => { results := [.lit (.bool false)], args := [d1, d2, d3] }
  | _ => none }
def FnExactPlanOfWrongFalsely : Prop := fnExactPlanOfRow.holds Tryz.pinned (OpenSpec.ofChange fnExactPlanOfWrong)

/- THE SECOND FORM. 'bulk': how many values and letters a reading holds, each counted each time it is reached (what is shared counts as often as it is met; a slice's spare places count too). A statement '..UptoSaid' is the law's where the arguments, and the package variables that the reading takes, are together of bulk at most 1048576: NARROWER than '..Said'. Prove '..Said' where nothing that the law and all that it calls make is longer than what came in: it says more and counts as full. Else prove '..UptoSaid'. A law counts once. -/
mutual
def uptoBulk {H : Type} : DataW H → Nat
  | .lit (.string bytes) => bytes.length + 1
  | .lit _ => 1
  | .nil => 1
  | .ptr d => uptoBulk d + 1
  | .slice elems spare => uptoBulkAll elems + uptoBulkAll spare + 1
  | .agg parts => uptoBulkAll parts + 1
  | .iface _ d => uptoBulk d + 1
  | .map entries => uptoBulkEntries entries + 1
  | .held _ => 1
def uptoBulkAll {H : Type} : List (DataW H) → Nat
  | [] => 0
  | d :: r => uptoBulk d + uptoBulkAll r
def uptoBulkEntries {H : Type} : List (Lit × DataW H) → Nat
  | [] => 0
  | x :: r => uptoBulkEntry x + uptoBulkEntries r
def uptoBulkEntry {H : Type} : Lit × DataW H → Nat
  | (.string bytes, d) => bytes.length + uptoBulk d + 1
  | (_, d) => uptoBulk d + 1
 end
def uptoSmall : (H : Type) → List (DataW H) → Bool := fun _ ds => decide (uptoBulkAll ds ≤ 1048576)
def OpenSpec.upto (s : _root_.Go.ChangeSpec) : _root_.Go.OpenSpec := { _root_.Go.OpenSpec.ofChange s with cond := some uptoSmall }

/-- 'laws.FnExactLeastSteps', WHERE WHAT IT READS IS OF BULK AT MOST 1048576: true; the input reads as it did. -/
def fnExactLeastStepsUptoRow : OpenClaim := { program := "ytoofajgeacebgaagreat", sum := "1d5eae265fb84e779ff866650e5420becd0788432f72fe59e3bcbef62501a263", func := "loop.example/g00090/laws.FnExactLeastSteps", spec := "fnExactLeastSteps", unfollowed := true, recurses := true, apart := false, narrowed := true }
def FnExactLeastStepsUptoSaid : Prop := fnExactLeastStepsUptoRow.holds Tryz.pinned (OpenSpec.upto fnExactLeastStepsSpec)

/-- 'laws.FnExactBatchesOf', WHERE WHAT IT READS IS OF BULK AT MOST 1048576: true; the input reads as it did. -/
def fnExactBatchesOfUptoRow : OpenClaim := { program := "ytoofajgeacebgaagreat", sum := "1d5eae265fb84e779ff866650e5420becd0788432f72fe59e3bcbef62501a263", func := "loop.example/g00090/laws.FnExactBatchesOf", spec := "fnExactBatchesOf", unfollowed := true, recurses := true, apart := false, narrowed := true }
def FnExactBatchesOfUptoSaid : Prop := fnExactBatchesOfUptoRow.holds Tryz.pinned (OpenSpec.upto fnExactBatchesOfSpec)

/-- 'laws.FnExactPlanOf', WHERE WHAT IT READS IS OF BULK AT MOST 1048576: true; the input reads as it did. -/
def fnExactPlanOfUptoRow : OpenClaim := { program := "ytoofajgeacebgaagreat", sum := "1d5eae265fb84e779ff866650e5420becd0788432f72fe59e3bcbef62501a263", func := "loop.example/g00090/laws.FnExactPlanOf", spec := "fnExactPlanOf", unfollowed := true, recurses := true, apart := false, narrowed := true }
def FnExactPlanOfUptoSaid : Prop := fnExactPlanOfUptoRow.holds Tryz.pinned (OpenSpec.upto fnExactPlanOfSpec)

end Rows
end Go.Proofs.YtoofajgeacebgaaGreat

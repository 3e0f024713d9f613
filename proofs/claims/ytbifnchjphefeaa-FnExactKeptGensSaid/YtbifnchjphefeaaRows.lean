/-
  No cell of these rows narrows 'for every input' (looked for: loops, veiled, ifaces, maps, wideKeys, modest, calm, conditions, laid).
  DERIVED. THE GIVEN ROWS OF THIS SEAT. 2 by the template 'for every input the law returns true; each argument reads behind the call as it read before'; 0 by the template 'total and deterministic' (their statements: YtbifnchjphefeaaTotals.lean).
  GIVEN WITH THE SEED: the statements are not yours to turn. If you find one false, say at which input.
  Laid BY PROGRAM, IN A SANDBOX (cutbox-rows.mjs): the forced cells as the released guide's own fill.sh prints them over the translation eed4bf19d005cadf… (all of the seat's roots in one cut). By AI agents, Wed Nov 11 2026. No macro, syntax, notation, axiom, sorry.
-/
import Derived.Test.YtbifnchjphefeaaChecked
import GoSem.Claim
import GoSem.ClaimJoined
import GoSem.ClaimMapViews
import Derived.JoinedTies
import Derived.KernelRfl
namespace Go.Proofs.Ytbifnchjphefeaa
/- THE CELL 'sum', in the pinned program and in every row, IS THE sha256 OF THE DUMP (.gsa) THAT YtbifnchjphefeaaProg.lean LOADS. Nothing in Lean hashes anything: it is a label: what it is worth is what the hold of that sum in a sandbox is worth. -/
noncomputable def Try.pinned : Pinned := { name := "ytbifnchjphefeaa", sum := "eed4bf19d005cadf6f79f15117e22ae56cf5a99c501bd87ba7bd3b929280a925", checked := Try.checked }
namespace Rows
def none {H : Type} : Left H := { results := [], args := [] }

/-- 'laws.FnExactCheckPlan': WHATEVER THE INPUT: true; the input reads as it did. -/
def fnExactCheckPlanSpec : ChangeSpec := { name := "fnExactCheckPlan", fn := fun _ => fun
  | [d1, d2, d3] => { results := [.lit (.bool true)], args := [d1, d2, d3] }
  | _ => none }
def fnExactCheckPlanRow : OpenClaim := { program := "ytbifnchjphefeaa", sum := "eed4bf19d005cadf6f79f15117e22ae56cf5a99c501bd87ba7bd3b929280a925", func := "loop.example/g00090/laws.FnExactCheckPlan", spec := "fnExactCheckPlan", unfollowed := true, recurses := true, apart := false }
def FnExactCheckPlanSaid : Prop := fnExactCheckPlanRow.holds Try.pinned (OpenSpec.ofChange fnExactCheckPlanSpec)

/-- ITS FALSE NEIGHBOUR: 'it returns false'. Refute it at one input. -/
def fnExactCheckPlanWrong : ChangeSpec := { name := "fnExactCheckPlan", fn := fun _ => fun
  | [d1, d2, d3] => { results := [.lit (.bool false)], args := [d1, d2, d3] }
  | _ => none }
def FnExactCheckPlanWrongFalsely : Prop := fnExactCheckPlanRow.holds Try.pinned (OpenSpec.ofChange fnExactCheckPlanWrong)

/-- 'laws.FnExactKeptGens': WHATEVER THE INPUT: true; the input reads as it did. -/
def fnExactKeptGensSpec : ChangeSpec := { name := "fnExactKeptGens", fn := fun _ => fun
  | [d1, d2] => { results := [.lit (.bool true)], args := [d1, d2] }
  | _ => none }
def fnExactKeptGensRow : OpenClaim := { program := "ytbifnchjphefeaa", sum := "eed4bf19d005cadf6f79f15117e22ae56cf5a99c501bd87ba7bd3b929280a925", func := "loop.example/g00090/laws.FnExactKeptGens", spec := "fnExactKeptGens", inPlace := ["internal/bytealg.abigen_runtime_cmpstring"], unfollowed := true, recurses := true, apart := false }
def FnExactKeptGensSaid : Prop := fnExactKeptGensRow.holds Try.pinned (OpenSpec.ofChange fnExactKeptGensSpec)

/-- ITS FALSE NEIGHBOUR: 'it returns false'. Refute it at one input. -/
def fnExactKeptGensWrong : ChangeSpec := { name := "fnExactKeptGens", fn := fun _ => fun
  | [d1, d2] => { results := [.lit (.bool false)], args := [d1, d2] }
  | _ => none }
def FnExactKeptGensWrongFalsely : Prop := fnExactKeptGensRow.holds Try.pinned (OpenSpec.ofChange fnExactKeptGensWrong)

/- THE SECOND FORM. 'bulk': how many values and letters a reading holds, each counted each time it is reached (what is shared counts as often as it is met; a slice's spare places count too). A statement '..UptoSaid' is the law's where the arguments, and the package variables that the reading takes, are together of bulk at most 1048576: NARROWER than '..Said'. Prove '..Said' where nothing that the law and all that it calls make is longer than what came in: it says more and counts as full. Else prove '..UptoSaid'. A law counts once. -/
mutual
def uptoBulk {H : Type} : DataW H → Nat
  | .lit (.string bytes) => bytes.length + 1
  | .lit _ => 1
  | .nil => 1
  | .ptr d => uptoBulk d + 1
  | .slice elems spare => uptoBulkAll elems + uptoBulkAll spare + 1
  | .agg parts => uptoBulkAll parts + 1
  | .iface _ d => uptoBulk d + 1
  | .map entries => uptoBulkEntries entries + 1
  | .held _ => 1
def uptoBulkAll {H : Type} : List (DataW H) → Nat
  | [] => 0
  | d :: r => uptoBulk d + uptoBulkAll r
def uptoBulkEntries {H : Type} : List (Lit × DataW H) → Nat
  | [] => 0
  | x :: r => uptoBulkEntry x + uptoBulkEntries r
def uptoBulkEntry {H : Type} : Lit × DataW H → Nat
  | (.string bytes, d) => bytes.length + uptoBulk d + 1
  | (_, d) => uptoBulk d + 1
 end
def uptoSmall : (H : Type) → List (DataW H) → Bool := fun _ ds => decide (uptoBulkAll ds ≤ 1048576)
def OpenSpec.upto (s : _root_.Go.ChangeSpec) : _root_.Go.OpenSpec := { _root_.Go.OpenSpec.ofChange s with cond := some uptoSmall }

/-- 'laws.FnExactCheckPlan', WHERE WHAT IT READS IS OF BULK AT MOST 1048576: true; the input reads as it did. -/
def fnExactCheckPlanUptoRow : OpenClaim := { program := "ytbifnchjphefeaa", sum := "eed4bf19d005cadf6f79f15117e22ae56cf5a99c501bd87ba7bd3b929280a925", func := "loop.example/g00090/laws.FnExactCheckPlan", spec := "fnExactCheckPlan", unfollowed := true, recurses := true, apart := false, narrowed := true }
def FnExactCheckPlanUptoSaid : Prop := fnExactCheckPlanUptoRow.holds Try.pinned (OpenSpec.upto fnExactCheckPlanSpec)

/-- 'laws.FnExactKeptGens', WHERE WHAT IT READS IS OF BULK AT MOST 1048576: true; the input reads as it did. -/
def fnExactKeptGensUptoRow : OpenClaim := { program := "ytbifnchjphefeaa", sum := "eed4bf19d005cadf6f79f15117e22ae56cf5a99c501bd87ba7bd3b929280a925", func := "loop.example/g00090/laws.FnExactKeptGens", spec := "fnExactKeptGens", inPlace := ["internal/bytealg.abigen_runtime_cmpstring"], unfollowed := true, recurses := true, apart := false, narrowed := true }
def FnExactKeptGensUptoSaid : Prop := fnExactKeptGensUptoRow.holds Try.pinned (OpenSpec.upto fnExactKeptGensSpec)

end Rows
end Go.Proofs.Ytbifnchjphefeaa

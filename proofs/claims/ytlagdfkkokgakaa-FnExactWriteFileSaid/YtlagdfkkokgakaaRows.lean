/-
  No cell of these rows narrows 'for every input' (looked for: loops, veiled, ifaces, maps, wideKeys, modest, calm, conditions, laid).
  DERIVED. THE GIVEN ROWS OF THIS SEAT. 2 by the template 'for every input the law returns true; each argument reads behind the call as it read before'; 0 by the template 'total and deterministic' (their statements: YtlagdfkkokgakaaTotals.lean).
  GIVEN WITH THE SEED: the statements are not yours to turn. If you find one false, say at which input.
  Laid BY PROGRAM, IN A SANDBOX (cutbox-rows.mjs): the forced cells as the released guide's own fill.sh prints them over the translation f7ec152f25902bdc… (all of the seat's roots in one cut). By AI agents, Wed Nov 11 2026. No macro, syntax, notation, axiom, sorry.
-/
import Derived.Test.YtlagdfkkokgakaaChecked
import GoSem.Claim
import GoSem.ClaimJoined
import GoSem.ClaimMapViews
import Derived.JoinedTies
import Derived.KernelRfl
namespace Go.Proofs.Ytlagdfkkokgakaa
/- THE CELL 'sum', in the pinned program and in every row, IS THE sha256 OF THE DUMP (.gsa) THAT YtlagdfkkokgakaaProg.lean LOADS. Nothing in Lean hashes anything: it is a label: what it is worth is what the hold of that sum in a sandbox is worth. -/
noncomputable def Try.pinned : Pinned := { name := "ytlagdfkkokgakaa", sum := "f7ec152f25902bdc3da59c0733ed6b69a275525cf1a6d17bd79a96db2bd32c3d", checked := Try.checked }
namespace Rows
def none {H : Type} : Left H := { results := [], args := [] }

/-- 'laws.FnExactDropFile': WHATEVER THE INPUT: true; the input reads as it did. -/
def fnExactDropFileSpec : ChangeSpec := { name := "fnExactDropFile", fn := fun _ => fun
  | [d1, d2] => { results := [.lit (.bool true)], args := [d1, d2] }
  | _ => none }
def fnExactDropFileRow : OpenClaim := { program := "ytlagdfkkokgakaa", sum := "f7ec152f25902bdc3da59c0733ed6b69a275525cf1a6d17bd79a96db2bd32c3d", func := "loop.example/g00090/laws.FnExactDropFile", spec := "fnExactDropFile", inPlace := ["internal/bytealg.abigen_runtime_cmpstring"], unfollowed := true, recurses := true, apart := false }
def FnExactDropFileSaid : Prop := fnExactDropFileRow.holds Try.pinned (OpenSpec.ofChange fnExactDropFileSpec)

/-- ITS FALSE NEIGHBOUR: 'it returns false'. Refute it at one input. -/
def fnExactDropFileWrong : ChangeSpec := { name := "fnExactDropFile", fn := fun _ => fun
  | [d1, d2] => { results := [.lit (.bool false)], args := [d1, d2] }
  | _ => none }
def FnExactDropFileWrongFalsely : Prop := fnExactDropFileRow.holds Try.pinned (OpenSpec.ofChange fnExactDropFileWrong)

/-- 'laws.FnExactWriteFile': WHATEVER THE INPUT: true; the input reads as it did. -/
def fnExactWriteFileSpec : ChangeSpec := { name := "fnExactWriteFile", fn := fun _ => fun
  | [d1, d2, d3] => { results := [.lit (.bool true)], args := [d1, d2, d3] }
  | _ => none }
def fnExactWriteFileRow : OpenClaim := { program := "ytlagdfkkokgakaa", sum := "f7ec152f25902bdc3da59c0733ed6b69a275525cf1a6d17bd79a96db2bd32c3d", func := "loop.example/g00090/laws.FnExactWriteFile", spec := "fnExactWriteFile", inPlace := ["internal/bytealg.abigen_runtime_cmpstring", "slices.overlaps[loop.example/g00090/impl.File]"], unfollowed := true, recurses := true, apart := false }
def FnExactWriteFileSaid : Prop := fnExactWriteFileRow.holds Try.pinned (OpenSpec.ofChange fnExactWriteFileSpec)

/-- ITS FALSE NEIGHBOUR: 'it returns false'. Refute it at one input. -/
def fnExactWriteFileWrong : ChangeSpec := { name := "fnExactWriteFile", fn := fun _ => fun
  | [d1, d2, d3] => { results := [.lit (.bool false)], args := [d1, d2, d3] }
  | _ => none }
def FnExactWriteFileWrongFalsely : Prop := fnExactWriteFileRow.holds Try.pinned (OpenSpec.ofChange fnExactWriteFileWrong)

/- THE SECOND FORM. 'bulk': how many values and letters a reading holds, each counted each time it is reached (what is shared counts as often as it is met; a slice's spare places count too). A statement '..UptoSaid' is the law's where the arguments, and the package variables that the reading takes, are together of bulk at most 1048576: NARROWER than '..Said'. Prove '..Said' where nothing that the law and all that it calls make is longer than what came in: it says more and counts as full. Else prove '..UptoSaid'. A law counts once. -/
mutual
def uptoBulk {H : Type} : DataW H → Nat
  | .lit (.string bytes) => bytes.length + 1
  | .lit _ => 1
  | .nil => 1
  | .ptr d => uptoBulk d + 1
  | .slice elems spare => uptoBulkAll elems + uptoBulkAll spare + 1
  | .agg parts => uptoBulkAll parts + 1
  | .iface _ d => uptoBulk d + 1
  | .map entries => uptoBulkEntries entries + 1
  | .held _ => 1
def uptoBulkAll {H : Type} : List (DataW H) → Nat
  | [] => 0
  | d :: r => uptoBulk d + uptoBulkAll r
def uptoBulkEntries {H : Type} : List (Lit × DataW H) → Nat
  | [] => 0
  | x :: r => uptoBulkEntry x + uptoBulkEntries r
def uptoBulkEntry {H : Type} : Lit × DataW H → Nat
  | (.string bytes, d) => bytes.length + uptoBulk d + 1
  | (_, d) => uptoBulk d + 1
 end
def uptoSmall : (H : Type) → List (DataW H) → Bool := fun _ ds => decide (uptoBulkAll ds ≤ 1048576)
def OpenSpec.upto (s : _root_.Go.ChangeSpec) : _root_.Go.OpenSpec := { _root_.Go.OpenSpec.ofChange s with cond := some uptoSmall }

/-- 'laws.FnExactDropFile', WHERE WHAT IT READS IS OF BULK AT MOST 1048576: true; the input reads as it did. -/
def fnExactDropFileUptoRow : OpenClaim := { program := "ytlagdfkkokgakaa", sum := "f7ec152f25902bdc3da59c0733ed6b69a275525cf1a6d17bd79a96db2bd32c3d", func := "loop.example/g00090/laws.FnExactDropFile", spec := "fnExactDropFile", inPlace := ["internal/bytealg.abigen_runtime_cmpstring"], unfollowed := true, recurses := true, apart := false, narrowed := true }
def FnExactDropFileUptoSaid : Prop := fnExactDropFileUptoRow.holds Try.pinned (OpenSpec.upto fnExactDropFileSpec)

/-- 'laws.FnExactWriteFile', WHERE WHAT IT READS IS OF BULK AT MOST 1048576: true; the input reads as it did. -/
def fnExactWriteFileUptoRow : OpenClaim := { program := "ytlagdfkkokgakaa", sum := "f7ec152f25902bdc3da59c0733ed6b69a275525cf1a6d17bd79a96db2bd32c3d", func := "loop.example/g00090/laws.FnExactWriteFile", spec := "fnExactWriteFile", inPlace := ["internal/bytealg.abigen_runtime_cmpstring", "slices.overlaps[loop.example/g00090/impl.File]"], unfollowed := true, recurses := true, apart := false, narrowed := true }
def FnExactWriteFileUptoSaid : Prop := fnExactWriteFileUptoRow.holds Try.pinned (OpenSpec.upto fnExactWriteFileSpec)

end Rows
end Go.Proofs.Ytlagdfkkokgakaa

/-
  No cell of these rows narrows 'for every input' (looked for: loops, veiled, ifaces, maps, wideKeys, modest, calm, conditions, laid).
  DERIVED. THE GIVEN ROWS OF THIS SEAT. 10 by the template 'for every input the law returns true; each argument reads behind the call as it read before'; 0 by the template 'total and deterministic' (their statements: YtedpgkmkdhlcaaaTotals.lean).
  GIVEN WITH THE SEED: the statements are not yours to turn. If you find one false, say at which input.
  Laid BY PROGRAM, IN A SANDBOX (cutbox-rows.mjs): the forced cells as the released guide's own fill.sh prints them over the translation b5e8c443109aa0b0… (all of the seat's roots in one cut). By AI agents, Wed Nov 11 2026. No macro, syntax, notation, axiom, sorry.
-/
import Derived.Test.YtedpgkmkdhlcaaaChecked
import GoSem.Claim
import GoSem.ClaimJoined
import GoSem.ClaimMapViews
import Derived.JoinedTies
import Derived.KernelRfl
namespace Go.Proofs.Ytedpgkmkdhlcaaa
/- THE CELL 'sum', in the pinned program and in every row, IS THE sha256 OF THE DUMP (.gsa) THAT YtedpgkmkdhlcaaaProg.lean LOADS. Nothing in Lean hashes anything: it is a label: what it is worth is what the hold of that sum in a sandbox is worth. -/
noncomputable def Try.pinned : Pinned := { name := "ytedpgkmkdhlcaaa", sum := "b5e8c443109aa0b01b3c37e2173a6c363ea50645a6cbfc4dba1afdcd4807b9ec", checked := Try.checked }
namespace Rows
def none {H : Type} : Left H := { results := [], args := [] }

/-- 'laws.FnExactEmptyDisk': WHATEVER THE INPUT: true; the input reads as it did. -/
def fnExactEmptyDiskSpec : ChangeSpec := { name := "fnExactEmptyDisk", fn := fun _ => fun
  | [d] => { results := [.lit (.bool true)], args := [d] }
  | _ => none }
def fnExactEmptyDiskRow : OpenClaim := { program := "ytedpgkmkdhlcaaa", sum := "b5e8c443109aa0b01b3c37e2173a6c363ea50645a6cbfc4dba1afdcd4807b9ec", func := "loop.example/g00090/laws.FnExactEmptyDisk", spec := "fnExactEmptyDisk", apart := false }
def FnExactEmptyDiskSaid : Prop := fnExactEmptyDiskRow.holds Try.pinned (OpenSpec.ofChange fnExactEmptyDiskSpec)

/-- ITS FALSE NEIGHBOUR: 'it returns false'. Refute it at one input. -/
def fnExactEmptyDiskWrong : ChangeSpec := { name := "fnExactEmptyDisk", fn := fun _ => fun
  | [d] => { results := [.lit (.bool false)], args := [d] }
  | _ => none }
def FnExactEmptyDiskWrongFalsely : Prop := fnExactEmptyDiskRow.holds Try.pinned (OpenSpec.ofChange fnExactEmptyDiskWrong)

/-- 'laws.FnExactAsksWith': WHATEVER THE INPUT: true; the input reads as it did. -/
def fnExactAsksWithSpec : ChangeSpec := { name := "fnExactAsksWith", fn := fun _ => fun
  | [d1, d2] => { results := [.lit (.bool true)], args := [d1, d2] }
  | _ => none }
def fnExactAsksWithRow : OpenClaim := { program := "ytedpgkmkdhlcaaa", sum := "b5e8c443109aa0b01b3c37e2173a6c363ea50645a6cbfc4dba1afdcd4807b9ec", func := "loop.example/g00090/laws.FnExactAsksWith", spec := "fnExactAsksWith", apart := false }
def FnExactAsksWithSaid : Prop := fnExactAsksWithRow.holds Try.pinned (OpenSpec.ofChange fnExactAsksWithSpec)

/-- ITS FALSE NEIGHBOUR: 'it returns false'. Refute it at one input. -/
def fnExactAsksWithWrong : ChangeSpec := { name := "fnExactAsksWith", fn := fun _ => fun
  | [d1, d2] => { results := [.lit (.bool false)], args := [d1, d2] }
  | _ => none }
def FnExactAsksWithWrongFalsely : Prop := fnExactAsksWithRow.holds Try.pinned (OpenSpec.ofChange fnExactAsksWithWrong)

/-- 'laws.FnExactAsksWithout': WHATEVER THE INPUT: true; the input reads as it did. -/
def fnExactAsksWithoutSpec : ChangeSpec := { name := "fnExactAsksWithout", fn := fun _ => fun
  | [d1, d2] => { results := [.lit (.bool true)], args := [d1, d2] }
  | _ => none }
def fnExactAsksWithoutRow : OpenClaim := { program := "ytedpgkmkdhlcaaa", sum := "b5e8c443109aa0b01b3c37e2173a6c363ea50645a6cbfc4dba1afdcd4807b9ec", func := "loop.example/g00090/laws.FnExactAsksWithout", spec := "fnExactAsksWithout", unfollowed := true, recurses := true, apart := false }
def FnExactAsksWithoutSaid : Prop := fnExactAsksWithoutRow.holds Try.pinned (OpenSpec.ofChange fnExactAsksWithoutSpec)

/-- ITS FALSE NEIGHBOUR: 'it returns false'. Refute it at one input. -/
def fnExactAsksWithoutWrong : ChangeSpec := { name := "fnExactAsksWithout", fn := fun _ => fun
  | [d1, d2] => { results := [.lit (.bool false)], args := [d1, d2] }
  | _ => none }
def FnExactAsksWithoutWrongFalsely : Prop := fnExactAsksWithoutRow.holds Try.pinned (OpenSpec.ofChange fnExactAsksWithoutWrong)

/-- 'laws.FnExactPathsOf': WHATEVER THE INPUT: true; the input reads as it did. -/
def fnExactPathsOfSpec : ChangeSpec := { name := "fnExactPathsOf", fn := fun _ => fun
  | [d1, d2] => { results := [.lit (.bool true)], args := [d1, d2] }
  | _ => none }
def fnExactPathsOfRow : OpenClaim := { program := "ytedpgkmkdhlcaaa", sum := "b5e8c443109aa0b01b3c37e2173a6c363ea50645a6cbfc4dba1afdcd4807b9ec", func := "loop.example/g00090/laws.FnExactPathsOf", spec := "fnExactPathsOf", apart := false }
def FnExactPathsOfSaid : Prop := fnExactPathsOfRow.holds Try.pinned (OpenSpec.ofChange fnExactPathsOfSpec)

/-- ITS FALSE NEIGHBOUR: 'it returns false'. Refute it at one input. -/
def fnExactPathsOfWrong : ChangeSpec := { name := "fnExactPathsOf", fn := fun _ => fun
  | [d1, d2] => { results := [.lit (.bool false)], args := [d1, d2] }
  | _ => none }
def FnExactPathsOfWrongFalsely : Prop := fnExactPathsOfRow.holds Try.pinned (OpenSpec.ofChange fnExactPathsOfWrong)

/-- 'laws.FnExactCutDisk': WHATEVER THE INPUT: true; the input reads as it did. -/
def fnExactCutDiskSpec : ChangeSpec := { name := "fnExactCutDisk", fn := fun _ => fun
  | [d] => { results := [.lit (.bool true)], args := [d] }
  | _ => none }
def fnExactCutDiskRow : OpenClaim := { program := "ytedpgkmkdhlcaaa", sum := "b5e8c443109aa0b01b3c37e2173a6c363ea50645a6cbfc4dba1afdcd4807b9ec", func := "loop.example/g00090/laws.FnExactCutDisk", spec := "fnExactCutDisk", apart := false }
def FnExactCutDiskSaid : Prop := fnExactCutDiskRow.holds Try.pinned (OpenSpec.ofChange fnExactCutDiskSpec)

/-- ITS FALSE NEIGHBOUR: 'it returns false'. Refute it at one input. -/
def fnExactCutDiskWrong : ChangeSpec := { name := "fnExactCutDisk", fn := fun _ => fun
  | [d] => { results := [.lit (.bool false)], args := [d] }
  | _ => none }
def FnExactCutDiskWrongFalsely : Prop := fnExactCutDiskRow.holds Try.pinned (OpenSpec.ofChange fnExactCutDiskWrong)

/-- 'laws.FnExactRaiseDisk': WHATEVER THE INPUT: true; the input reads as it did. -/
def fnExactRaiseDiskSpec : ChangeSpec := { name := "fnExactRaiseDisk", fn := fun _ => fun
  | [d1, d2] => { results := [.lit (.bool true)], args := [d1, d2] }
  | _ => none }
def fnExactRaiseDiskRow : OpenClaim := { program := "ytedpgkmkdhlcaaa", sum := "b5e8c443109aa0b01b3c37e2173a6c363ea50645a6cbfc4dba1afdcd4807b9ec", func := "loop.example/g00090/laws.FnExactRaiseDisk", spec := "fnExactRaiseDisk", apart := false }
def FnExactRaiseDiskSaid : Prop := fnExactRaiseDiskRow.holds Try.pinned (OpenSpec.ofChange fnExactRaiseDiskSpec)

/-- ITS FALSE NEIGHBOUR: 'it returns false'. Refute it at one input. -/
def fnExactRaiseDiskWrong : ChangeSpec := { name := "fnExactRaiseDisk", fn := fun _ => fun
  | [d1, d2] => { results := [.lit (.bool false)], args := [d1, d2] }
  | _ => none }
def FnExactRaiseDiskWrongFalsely : Prop := fnExactRaiseDiskRow.holds Try.pinned (OpenSpec.ofChange fnExactRaiseDiskWrong)

/-- 'laws.FnExactReadFile': WHATEVER THE INPUT: true; the input reads as it did. -/
def fnExactReadFileSpec : ChangeSpec := { name := "fnExactReadFile", fn := fun _ => fun
  | [d1, d2] => { results := [.lit (.bool true)], args := [d1, d2] }
  | _ => none }
def fnExactReadFileRow : OpenClaim := { program := "ytedpgkmkdhlcaaa", sum := "b5e8c443109aa0b01b3c37e2173a6c363ea50645a6cbfc4dba1afdcd4807b9ec", func := "loop.example/g00090/laws.FnExactReadFile", spec := "fnExactReadFile", inPlace := ["internal/bytealg.abigen_runtime_cmpstring"], unfollowed := true, recurses := true, apart := false }
def FnExactReadFileSaid : Prop := fnExactReadFileRow.holds Try.pinned (OpenSpec.ofChange fnExactReadFileSpec)

/-- ITS FALSE NEIGHBOUR: 'it returns false'. Refute it at one input. -/
def fnExactReadFileWrong : ChangeSpec := { name := "fnExactReadFile", fn := fun _ => fun
  | [d1, d2] => { results := [.lit (.bool false)], args := [d1, d2] }
  | _ => none }
def FnExactReadFileWrongFalsely : Prop := fnExactReadFileRow.holds Try.pinned (OpenSpec.ofChange fnExactReadFileWrong)

/-- 'laws.FnExactGensOf': WHATEVER THE INPUT: true; the input reads as it did. -/
def fnExactGensOfSpec : ChangeSpec := { name := "fnExactGensOf", fn := fun _ => fun
  | [d] => { results := [.lit (.bool true)], args := [d] }
  | _ => none }
def fnExactGensOfRow : OpenClaim := { program := "ytedpgkmkdhlcaaa", sum := "b5e8c443109aa0b01b3c37e2173a6c363ea50645a6cbfc4dba1afdcd4807b9ec", func := "loop.example/g00090/laws.FnExactGensOf", spec := "fnExactGensOf", recurses := true, apart := false }
def FnExactGensOfSaid : Prop := fnExactGensOfRow.holds Try.pinned (OpenSpec.ofChange fnExactGensOfSpec)

/-- ITS FALSE NEIGHBOUR: 'it returns false'. Refute it at one input. -/
def fnExactGensOfWrong : ChangeSpec := { name := "fnExactGensOf", fn := fun _ => fun
  | [d] => { results := [.lit (.bool false)], args := [d] }
  | _ => none }
def FnExactGensOfWrongFalsely : Prop := fnExactGensOfRow.holds Try.pinned (OpenSpec.ofChange fnExactGensOfWrong)

/-- 'laws.FnExactDropFile': WHATEVER THE INPUT: true; the input reads as it did. -/
def fnExactDropFileSpec : ChangeSpec := { name := "fnExactDropFile", fn := fun _ => fun
  | [d1, d2] => { results := [.lit (.bool true)], args := [d1, d2] }
  | _ => none }
def fnExactDropFileRow : OpenClaim := { program := "ytedpgkmkdhlcaaa", sum := "b5e8c443109aa0b01b3c37e2173a6c363ea50645a6cbfc4dba1afdcd4807b9ec", func := "loop.example/g00090/laws.FnExactDropFile", spec := "fnExactDropFile", inPlace := ["internal/bytealg.abigen_runtime_cmpstring"], unfollowed := true, recurses := true, apart := false }
def FnExactDropFileSaid : Prop := fnExactDropFileRow.holds Try.pinned (OpenSpec.ofChange fnExactDropFileSpec)

/-- ITS FALSE NEIGHBOUR: 'it returns false'. Refute it at one input. -/
def fnExactDropFileWrong : ChangeSpec := { name := "fnExactDropFile", fn := fun _ => fun
  | [d1, d2] => { results := [.lit (.bool false)], args := [d1, d2] }
  | _ => none }
def FnExactDropFileWrongFalsely : Prop := fnExactDropFileRow.holds Try.pinned (OpenSpec.ofChange fnExactDropFileWrong)

/-- 'laws.FnExactWriteFile': WHATEVER THE INPUT: true; the input reads as it did. -/
def fnExactWriteFileSpec : ChangeSpec := { name := "fnExactWriteFile", fn := fun _ => fun
  | [d1, d2, d3] => { results := [.lit (.bool true)], args := [d1, d2, d3] }
  | _ => none }
def fnExactWriteFileRow : OpenClaim := { program := "ytedpgkmkdhlcaaa", sum := "b5e8c443109aa0b01b3c37e2173a6c363ea50645a6cbfc4dba1afdcd4807b9ec", func := "loop.example/g00090/laws.FnExactWriteFile", spec := "fnExactWriteFile", inPlace := ["internal/bytealg.abigen_runtime_cmpstring", "slices.overlaps[loop.example/g00090/impl.File]"], unfollowed := true, recurses := true, apart := false }
def FnExactWriteFileSaid : Prop := fnExactWriteFileRow.holds Try.pinned (OpenSpec.ofChange fnExactWriteFileSpec)

/-- ITS FALSE NEIGHBOUR: 'it returns false'. Refute it at one input. -/
def fnExactWriteFileWrong : ChangeSpec := { name := "fnExactWriteFile", fn := fun _ => fun
  | [d1, d2, d3] => { results := [.lit (.bool false)], args := [d1, d2, d3] }
  | _ => none }
def FnExactWriteFileWrongFalsely : Prop := fnExactWriteFileRow.holds Try.pinned (OpenSpec.ofChange fnExactWriteFileWrong)

/- THE SECOND FORM. 'bulk': how many values and letters a reading holds, each counted each time it is reached (what is shared counts as often as it is met; a slice's spare places count too). A statement '..UptoSaid' is the law's where the arguments, and the package variables that the reading takes, are together of bulk at most 1048576: NARROWER than '..Said'. Prove '..Said' where nothing that the law and all that it calls make is longer than what came in: it says more and counts as full. Else prove '..UptoSaid'. A law counts once. -/
mutual
def uptoBulk {H : Type} : DataW H → Nat
  | .lit (.string bytes) => bytes.length + 1
  | .lit _ => 1
  | .nil => 1
  | .ptr d => uptoBulk d + 1
  | .slice elems spare => uptoBulkAll elems + uptoBulkAll spare + 1
  | .agg parts => uptoBulkAll parts + 1
  | .iface _ d => uptoBulk d + 1
  | .map entries => uptoBulkEntries entries + 1
  | .held _ => 1
def uptoBulkAll {H : Type} : List (DataW H) → Nat
  | [] => 0
  | d :: r => uptoBulk d + uptoBulkAll r
def uptoBulkEntries {H : Type} : List (Lit × DataW H) → Nat
  | [] => 0
  | x :: r => uptoBulkEntry x + uptoBulkEntries r
def uptoBulkEntry {H : Type} : Lit × DataW H → Nat
  | (.string bytes, d) => bytes.length + uptoBulk d + 1
  | (_, d) => uptoBulk d + 1
 end
def uptoSmall : (H : Type) → List (DataW H) → Bool := fun _ ds => decide (uptoBulkAll ds ≤ 1048576)
def OpenSpec.upto (s : _root_.Go.ChangeSpec) : _root_.Go.OpenSpec := { _root_.Go.OpenSpec.ofChange s with cond := some uptoSmall }

/-- 'laws.FnExactEmptyDisk', WHERE WHAT IT READS IS OF BULK AT MOST 1048576: true; the input reads as it did. -/
def fnExactEmptyDiskUptoRow : OpenClaim := { program := "ytedpgkmkdhlcaaa", sum := "b5e8c443109aa0b01b3c37e2173a6c363ea50645a6cbfc4dba1afdcd4807b9ec", func := "loop.example/g00090/laws.FnExactEmptyDisk", spec := "fnExactEmptyDisk", apart := false, narrowed := true }
def FnExactEmptyDiskUptoSaid : Prop := fnExactEmptyDiskUptoRow.holds Try.pinned (OpenSpec.upto fnExactEmptyDiskSpec)

/-- 'laws.FnExactAsksWith', WHERE WHAT IT READS IS OF BULK AT MOST 1048576: true; the input reads as it did. -/
def fnExactAsksWithUptoRow : OpenClaim := { program := "ytedpgkmkdhlcaaa", sum := "b5e8c443109aa0b01b3c37e2173a6c363ea50645a6cbfc4dba1afdcd4807b9ec", func := "loop.example/g00090/laws.FnExactAsksWith", spec := "fnExactAsksWith", apart := false, narrowed := true }
def FnExactAsksWithUptoSaid : Prop := fnExactAsksWithUptoRow.holds Try.pinned (OpenSpec.upto fnExactAsksWithSpec)

/-- 'laws.FnExactAsksWithout', WHERE WHAT IT READS IS OF BULK AT MOST 1048576: true; the input reads as it did. -/
def fnExactAsksWithoutUptoRow : OpenClaim := { program := "ytedpgkmkdhlcaaa", sum := "b5e8c443109aa0b01b3c37e2173a6c363ea50645a6cbfc4dba1afdcd4807b9ec", func := "loop.example/g00090/laws.FnExactAsksWithout", spec := "fnExactAsksWithout", unfollowed := true, recurses := true, apart := false, narrowed := true }
def FnExactAsksWithoutUptoSaid : Prop := fnExactAsksWithoutUptoRow.holds Try.pinned (OpenSpec.upto fnExactAsksWithoutSpec)

/-- 'laws.FnExactPathsOf', WHERE WHAT IT READS IS OF BULK AT MOST 1048576: true; the input reads as it did. -/
def fnExactPathsOfUptoRow : OpenClaim := { program := "ytedpgkmkdhlcaaa", sum := "b5e8c443109aa0b01b3c37e2173a6c363ea50645a6cbfc4dba1afdcd4807b9ec", func := "loop.example/g00090/laws.FnExactPathsOf", spec := "fnExactPathsOf", apart := false, narrowed := true }
def FnExactPathsOfUptoSaid : Prop := fnExactPathsOfUptoRow.holds Try.pinned (OpenSpec.upto fnExactPathsOfSpec)

/-- 'laws.FnExactCutDisk', WHERE WHAT IT READS IS OF BULK AT MOST 1048576: true; the input reads as it did. -/
def fnExactCutDiskUptoRow : OpenClaim := { program := "ytedpgkmkdhlcaaa", sum := "b5e8c443109aa0b01b3c37e2173a6c363ea50645a6cbfc4dba1afdcd4807b9ec", func := "loop.example/g00090/laws.FnExactCutDisk", spec := "fnExactCutDisk", apart := false, narrowed := true }
def FnExactCutDiskUptoSaid : Prop := fnExactCutDiskUptoRow.holds Try.pinned (OpenSpec.upto fnExactCutDiskSpec)

/-- 'laws.FnExactRaiseDisk', WHERE WHAT IT READS IS OF BULK AT MOST 1048576: true; the input reads as it did. -/
def fnExactRaiseDiskUptoRow : OpenClaim := { program := "ytedpgkmkdhlcaaa", sum := "b5e8c443109aa0b01b3c37e2173a6c363ea50645a6cbfc4dba1afdcd4807b9ec", func := "loop.example/g00090/laws.FnExactRaiseDisk", spec := "fnExactRaiseDisk", apart := false, narrowed := true }
def FnExactRaiseDiskUptoSaid : Prop := fnExactRaiseDiskUptoRow.holds Try.pinned (OpenSpec.upto fnExactRaiseDiskSpec)

/-- 'laws.FnExactReadFile', WHERE WHAT IT READS IS OF BULK AT MOST 1048576: true; the input reads as it did. -/
def fnExactReadFileUptoRow : OpenClaim := { program := "ytedpgkmkdhlcaaa", sum := "b5e8c443109aa0b01b3c37e2173a6c363ea50645a6cbfc4dba1afdcd4807b9ec", func := "loop.example/g00090/laws.FnExactReadFile", spec := "fnExactReadFile", inPlace := ["internal/bytealg.abigen_runtime_cmpstring"], unfollowed := true, recurses := true, apart := false, narrowed := true }
def FnExactReadFileUptoSaid : Prop := fnExactReadFileUptoRow.holds Try.pinned (OpenSpec.upto fnExactReadFileSpec)

/-- 'laws.FnExactGensOf', WHERE WHAT IT READS IS OF BULK AT MOST 1048576: true; the input reads as it did. -/
def fnExactGensOfUptoRow : OpenClaim := { program := "ytedpgkmkdhlcaaa", sum := "b5e8c443109aa0b01b3c37e2173a6c363ea50645a6cbfc4dba1afdcd4807b9ec", func := "loop.example/g00090/laws.FnExactGensOf", spec := "fnExactGensOf", recurses := true, apart := false, narrowed := true }
def FnExactGensOfUptoSaid : Prop := fnExactGensOfUptoRow.holds Try.pinned (OpenSpec.upto fnExactGensOfSpec)

/-- 'laws.FnExactDropFile', WHERE WHAT IT READS IS OF BULK AT MOST 1048576: true; the input reads as it did. -/
def fnExactDropFileUptoRow : OpenClaim := { program := "ytedpgkmkdhlcaaa", sum := "b5e8c443109aa0b01b3c37e2173a6c363ea50645a6cbfc4dba1afdcd4807b9ec", func := "loop.example/g00090/laws.FnExactDropFile", spec := "fnExactDropFile", inPlace := ["internal/bytealg.abigen_runtime_cmpstring"], unfollowed := true, recurses := true, apart := false, narrowed := true }
def FnExactDropFileUptoSaid : Prop := fnExactDropFileUptoRow.holds Try.pinned (OpenSpec.upto fnExactDropFileSpec)

/-- 'laws.FnExactWriteFile', WHERE WHAT IT READS IS OF BULK AT MOST 1048576: true; the input reads as it did. -/
def fnExactWriteFileUptoRow : OpenClaim := { program := "ytedpgkmkdhlcaaa", sum := "b5e8c443109aa0b01b3c37e2173a6c363ea50645a6cbfc4dba1afdcd4807b9ec", func := "loop.example/g00090/laws.FnExactWriteFile", spec := "fnExactWriteFile", inPlace := ["internal/bytealg.abigen_runtime_cmpstring", "slices.overlaps[loop.example/g00090/impl.File]"], unfollowed := true, recurses := true, apart := false, narrowed := true }
def FnExactWriteFileUptoSaid : Prop := fnExactWriteFileUptoRow.holds Try.pinned (OpenSpec.upto fnExactWriteFileSpec)

end Rows
end Go.Proofs.Ytedpgkmkdhlcaaa

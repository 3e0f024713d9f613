import Derived.Test.YtedpgkmkdhlcaaaRows
import Derived.Test.YtedpgkmkdhlcaaaOkEmptyDisk
import Derived.Test.YtedpgkmkdhlcaaaPureEmptyDisk
import Derived.Test.YtedpgkmkdhlcaaaIm38
import Derived.WalkKit
import Derived.ProofKit
import Derived.OpenShut
import Derived.ShutString
import Derived.ChangeOld
import Derived.Below
import Derived.SizedLaws
namespace Go.Proofs.Ytedpgkmkdhlcaaa.fnExactEmptyDisk
open Go.ChangeShapes Go.WideShapes Go.ChangeAt Go.RowKit
open Go.Im Go.Told
set_option linter.unusedVariables false
theorem own : ownKnob Try.prog.godebug = none := by kernel_rfl
theorem laidOut : laidOutB Try.prog = true := by kernel_rfl


set_option maxRecDepth 100000 in
theorem lifted (os : Os) (started : os.Started) (H : Type) (enc : TypeId × Value → H) :
    ReturnsInHanded {} Try.checked os 3 .any (Rows.fnExactEmptyDiskSpec.pre6 enc Try.prog Try.f3 Rows.fnExactEmptyDiskRow.domain false) (Rows.fnExactEmptyDiskSpec.post enc Try.prog Try.f3 false true false false) := by
  refine returnsInHanded_of_change_sized (C := Try.checked) own started (by kernel_rfl) Try.func3
    (ChangeSpec.witness6 (enc := enc) (C := Try.checked) false ⟨#[], #[.int .i64 0], []⟩ 8 (by kernel_rfl) (by kernel_rfl) (by kernel_rfl) (by kernel_rfl)) ?_
  intro W base args ds gs before hval0 hW hcnd hsz0 _
  have hval : ∀ (j : Nat) t v, Try.f3.params[j]? = some t → args[j]? = some v → Value.okWide Try.prog W .any base t v := hval0
  have hW' := hW
  obtain ⟨p, q, hA0, hV, rfl, hfz, hnd⟩ := hW
  have hA : DataW.TrodAll enc Try.prog W 0 (fun _ => true) true Try.f3.params.toList args.toList ds p := hA0
  rw [Try.params3] at hA hval
  obtain ⟨v0, vs0, d0, ds0, p0, q0, hargs, rfl, rfl, h0, r0⟩ := trodAll_cons hA
  obtain ⟨rfl, rfl, rfl⟩ := trodAll_nil r0
  obtain rfl : args = #[v0] := by cases args; simp_all
  obtain ⟨rfl, rfl⟩ := trodVars_none hV
  have hlt0 : ∀ x ∈ p0, x.block < W.heap.size := fun x hx => by simpa using hW'.lt x (by simp [hx])
  have s0 : v0.cells = #[v0] := by
    obtain ⟨a, rfl⟩ := okWide_int Try.underlying2 (hval 0 2 v0 rfl rfl)
    rfl
  obtain ⟨f0, g0⟩ := h0
  obtain ⟨x0, k0, e0⟩ := (rd_int (k := .i64) (P := Try.prog) (t := 2) (by kernel_rfl) : Reads enc Try.prog W 2 _ _) _ _ _ g0
  have hok := laws_FnExactEmptyDisk.ok x0
  rw [FnExactEmptyDisk_law x0 k0] at hok
  refine (law_calls hok (vs := [v0]) (fun β => args_cons (arg_one s0 (e0 β)) (args_nil))).mono fun e W' hs => ?_
  have he := hs.1
  subst he
  exact ⟨_, rfl, _, _, _, [], _, [], hW', trodAll_mk1 (shut_bool Try.underlying4 _), trodAll_mk1 (still_trod hs laidOut (by kernel_rfl) (of_decide_eq_true (by kernel_rfl)) ⟨f0, g0⟩ hlt0), rfl, still_kept hs _, fun h => by cases h⟩
theorem over : Rows.fnExactEmptyDiskRow.holds Try.pinned (OpenSpec.ofChange Rows.fnExactEmptyDiskSpec) :=
  OpenClaim.holds_of_wide 3 Try.f3 rfl rfl rfl rfl rfl rfl rfl ⟨rfl, rfl, rfl, rfl, rfl⟩ rfl rfl rfl rfl rfl (by kernel_rfl) Try.func3 (by kernel_rfl)
    (of_decide_eq_true (by kernel_rfl)) (by unfold Func.isWrapper; first | (rw [if_pos (by decide +kernel)]; kernel_rfl) | (rw [if_neg (by decide +kernel)]; exact ⟨rfl, rfl⟩))
    (fun os started H enc _ => lifted os started H enc)
theorem proved : Rows.FnExactEmptyDiskSaid := over
#print axioms proved
end Go.Proofs.Ytedpgkmkdhlcaaa.fnExactEmptyDisk
namespace Go.Proofs.Ytedpgkmkdhlcaaa
/-- The row, under a short name, for the claim. -/
theorem fnExactEmptyDisk_holds : Rows.FnExactEmptyDiskSaid := fnExactEmptyDisk.proved
end Go.Proofs.Ytedpgkmkdhlcaaa

import Derived.Test.YtghacmkpcjdpjaaGreatDoorLawRunBatchx2
namespace Go.Proofs.YtghacmkpcjdpjaaGreatDoor.fnExactRunBatch
open Go.ChangeShapes Go.WideShapes Go.ChangeAt Go.RowKit
open Go.Im Go.Told
set_option linter.unusedVariables false
theorem over:Rows.fnExactRunBatchRow.holds Tryz.pinned (OpenSpec.ofChange Rows.fnExactRunBatchSpec):=
 OpenClaim.holds_of_wide 4 Tryz.f4 rfl rfl rfl rfl rfl rfl rfl ⟨rfl,rfl,rfl,rfl,rfl⟩ rfl rfl rfl rfl rfl (by kernel_rfl) Tryz.func4 closed
  (of_decide_eq_true (by kernel_rfl)) (by unfold Func.isWrapper; first|(rw [if_pos (by decide+kernel)]; kernel_rfl)|(rw [if_neg (by decide+kernel)]; exact ⟨rfl,rfl⟩))
  (fun os started H enc _=>lifted os started H enc)
theorem proved:Rows.FnExactRunBatchSaid:=over
#print axioms proved
end Go.Proofs.YtghacmkpcjdpjaaGreatDoor.fnExactRunBatch

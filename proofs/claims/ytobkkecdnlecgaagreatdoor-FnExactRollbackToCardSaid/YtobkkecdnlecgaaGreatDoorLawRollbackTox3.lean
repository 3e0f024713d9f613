import Derived.Test.YtobkkecdnlecgaaGreatDoorLawRollbackTox2
namespace Go.Proofs.YtobkkecdnlecgaaGreatDoor.fnExactRollbackTo
open Go.ChangeShapes Go.WideShapes Go.ChangeAt Go.RowKit
open Go.Im Go.Told
set_option linter.unusedVariables false
theorem over:Rows.fnExactRollbackToRow.holds Tryz.pinned (OpenSpec.ofChange Rows.fnExactRollbackToSpec):=
 OpenClaim.holds_of_wide 5 Tryz.f5 rfl rfl rfl rfl rfl rfl rfl ⟨rfl,rfl,rfl,rfl,rfl⟩ rfl rfl rfl rfl rfl (by kernel_rfl) Tryz.func5 closed
  (of_decide_eq_true (by kernel_rfl)) (by unfold Func.isWrapper; first|(rw [if_pos (by decide+kernel)]; kernel_rfl)|(rw [if_neg (by decide+kernel)]; exact ⟨rfl,rfl⟩))
  (fun os started H enc _=>lifted os started H enc)
theorem proved:Rows.FnExactRollbackToSaid:=over
#print axioms proved
end Go.Proofs.YtobkkecdnlecgaaGreatDoor.fnExactRollbackTo

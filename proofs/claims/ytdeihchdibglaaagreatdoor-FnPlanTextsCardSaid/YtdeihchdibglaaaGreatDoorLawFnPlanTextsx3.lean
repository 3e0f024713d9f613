import Derived.Test.YtdeihchdibglaaaGreatDoorLawFnPlanTextsx2
namespace Go.Proofs.YtdeihchdibglaaaGreatDoor.fnPlanTexts
open Go.ChangeShapes Go.WideShapes Go.ChangeAt Go.RowKit
open Go.Im Go.Told
set_option linter.unusedVariables false
theorem over:Rows.fnPlanTextsRow.holds Tryz.pinned (OpenSpec.ofChange Rows.fnPlanTextsSpec):=
 OpenClaim.holds_of_wide 3 Tryz.f3 rfl rfl rfl rfl rfl rfl rfl ⟨rfl,rfl,rfl,rfl,rfl⟩ rfl rfl rfl rfl rfl (by kernel_rfl) Tryz.func3 closed
  (of_decide_eq_true (by kernel_rfl)) (by unfold Func.isWrapper; first|(rw [if_pos (by decide+kernel)]; kernel_rfl)|(rw [if_neg (by decide+kernel)]; exact ⟨rfl,rfl⟩))
  (fun os started H enc _=>lifted os started H enc)
theorem proved:Rows.FnPlanTextsSaid:=over
#print axioms proved
end Go.Proofs.YtdeihchdibglaaaGreatDoor.fnPlanTexts

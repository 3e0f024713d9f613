import Derived.Test.YtobkkecdnlecgaaGreatDoorLawShownOfx2
namespace Go.Proofs.YtobkkecdnlecgaaGreatDoor.fnExactShownOf
open Go.ChangeShapes Go.WideShapes Go.ChangeAt Go.RowKit
open Go.Im Go.Told
set_option linter.unusedVariables false
theorem over:Rows.fnExactShownOfRow.holds Tryz.pinned (OpenSpec.ofChange Rows.fnExactShownOfSpec):=
 OpenClaim.holds_of_wide 6 Tryz.f6 rfl rfl rfl rfl rfl rfl rfl ⟨rfl,rfl,rfl,rfl,rfl⟩ rfl rfl rfl rfl rfl (by kernel_rfl) Tryz.func6 closed
  (of_decide_eq_true (by kernel_rfl)) (by unfold Func.isWrapper; first|(rw [if_pos (by decide+kernel)]; kernel_rfl)|(rw [if_neg (by decide+kernel)]; exact ⟨rfl,rfl⟩))
  (fun os started H enc _=>lifted os started H enc)
theorem proved:Rows.FnExactShownOfSaid:=over
#print axioms proved
end Go.Proofs.YtobkkecdnlecgaaGreatDoor.fnExactShownOf

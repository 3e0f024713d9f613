import Derived.Test.YtlagdfkkokgakaaGreatDoorLawReachedPathsx2
namespace Go.Proofs.YtlagdfkkokgakaaGreatDoor.fnExactReachedPaths
open Go.ChangeShapes Go.WideShapes Go.ChangeAt Go.RowKit
open Go.Im Go.Told
set_option linter.unusedVariables false
theorem over:Rows.fnExactReachedPathsRow.holds Tryz.pinned (OpenSpec.ofChange Rows.fnExactReachedPathsSpec):=
 OpenClaim.holds_of_wide 8 Tryz.f8 rfl rfl rfl rfl rfl rfl rfl ⟨rfl,rfl,rfl,rfl,rfl⟩ rfl rfl rfl rfl rfl (by kernel_rfl) Tryz.func8 closed
  (of_decide_eq_true (by kernel_rfl)) (by unfold Func.isWrapper; first|(rw [if_pos (by decide+kernel)]; kernel_rfl)|(rw [if_neg (by decide+kernel)]; exact ⟨rfl,rfl⟩))
  (fun os started H enc _=>lifted os started H enc)
theorem proved:Rows.FnExactReachedPathsSaid:=over
#print axioms proved
end Go.Proofs.YtlagdfkkokgakaaGreatDoor.fnExactReachedPaths

import Derived.Test.YtghacmkpcjdpjaaGreatDoorLawFnRootsx2
namespace Go.Proofs.YtghacmkpcjdpjaaGreatDoor.fnRoots
open Go.ChangeShapes Go.WideShapes Go.ChangeAt Go.RowKit
open Go.Im Go.Told
set_option linter.unusedVariables false
theorem over:Rows.fnRootsRow.holds Tryz.pinned (OpenSpec.ofChange Rows.fnRootsSpec):=
 OpenClaim.holds_of_wide 3 Tryz.f3 rfl rfl rfl rfl rfl rfl rfl ⟨rfl,rfl,rfl,rfl,rfl⟩ rfl rfl rfl rfl rfl (by kernel_rfl) Tryz.func3 closed
  (of_decide_eq_true (by kernel_rfl)) (by unfold Func.isWrapper; first|(rw [if_pos (by decide+kernel)]; kernel_rfl)|(rw [if_neg (by decide+kernel)]; exact ⟨rfl,rfl⟩))
  (fun os started H enc _=>lifted os started H enc)
theorem proved:Rows.FnRootsSaid:=over
#print axioms proved
end Go.Proofs.YtghacmkpcjdpjaaGreatDoor.fnRoots

import Derived.Test.YtdeihchdibglaaaGreatDoorLawFnPlanTextsx1
namespace Go.Proofs.YtdeihchdibglaaaGreatDoor.fnPlanTexts
open Go.ChangeShapes Go.WideShapes Go.ChangeAt Go.RowKit
open Go.Im Go.Told
set_option linter.unusedVariables false
set_option maxRecDepth 100000 in
set_option maxHeartbeats 4000000 in
theorem closed:joinedFacts Tryz.prog 3 Tryz.f3 Rows.fnPlanTextsSpec Rows.fnPlanTextsRow=true:=by
 simp only [joinedFacts,Bool.and_eq_true]
 repeat' apply And.intro
 all_goals as_aux_lemma=>kernel_rfl
end Go.Proofs.YtdeihchdibglaaaGreatDoor.fnPlanTexts

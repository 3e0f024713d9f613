/- Proved: the statement on FnPlanTexts of this seat (the last theorem), for every argument that its own guards let in; nothing else is assumed. -/
import Derived.Test.YtdeihchdibglaaaGreatDoorLawFnPlanTextsx3
namespace Go.Proofs.YtdeihchdibglaaaGreatDoor
set_option maxHeartbeats 4000000 in
theorem fnPlanTexts_holds:Rows.FnPlanTextsCardSaid:=
 Claim7.holds_tied_plain_at .later [] [.data,.data,.data,.data,.pinned] true (true,"d034c8358a0122590cb047cdb33b13fdfd0c73398f8cc03c8d1ba648369caaa8") false
  fnPlanTexts.proved (fun _ h=>by cases h) (by as_aux_lemma=>kernel_rfl) (fun _ h=>by cases h) fnPlanTexts_row_tie rfl ⟨rfl,rfl⟩ (by as_aux_lemma=>kernel_rfl) rfl
  (fun f fn hf hfn=>by
   obtain rfl:f=3:=Option.some.inj ((show Tryz.prog.funcNamed "loop.example/g00090/laws.FnPlanTexts" =some 3 by as_aux_lemma=>kernel_rfl).symm.trans hf) |>.symm
   obtain rfl:fn=Tryz.f3:=(Option.some.inj (Tryz.func3.symm.trans hfn)).symm
   exact ⟨by as_aux_lemma=>kernel_rfl,fun j t ht=>by
    rw [Tryz.params3] at ht
    have h3:Tryz.prog.wantsStandIn t=false:=by
     have hm:=Array.mem_of_getElem? ht
     simp only [List.mem_toArray,qK,List.not_mem_nil,or_false] at hm
     rcases hm with rfl
     ·exact (show Tryz.prog.wantsStandIn 22=false by as_aux_lemma=>kernel_rfl)
    exact h3⟩)
  (by as_aux_lemma=>kernel_rfl)
#print axioms fnPlanTexts_holds
end Go.Proofs.YtdeihchdibglaaaGreatDoor

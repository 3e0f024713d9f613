/- Proved: the statement on CollectGens of this seat (the last theorem), for every argument that its own guards let in; nothing else is assumed. -/
import Derived.Test.YtobkkecdnlecgaaGreatDoorLawCollectGensx3
namespace Go.Proofs.YtobkkecdnlecgaaGreatDoor
set_option maxHeartbeats 4000000 in
theorem fnExactCollectGens_holds:Rows.FnExactCollectGensCardSaid:=
 Claim7.holds_tied_plain_at .later [] [.data,.data,.data,.data,.pinned] true (true,"c3761a928c79443fb9829df117cc113367268b826bfb7410d7f17fd4b697fe3a") false
  fnExactCollectGens.proved (fun _ h=>by cases h) (by as_aux_lemma=>kernel_rfl) (fun _ h=>by cases h) fnExactCollectGens_row_tie rfl ⟨rfl,rfl⟩ (by as_aux_lemma=>kernel_rfl) rfl
  (fun f fn hf hfn=>by
   obtain rfl:f=4:=Option.some.inj ((show Tryz.prog.funcNamed "loop.example/g00090/laws.FnExactCollectGens" =some 4 by as_aux_lemma=>kernel_rfl).symm.trans hf) |>.symm
   obtain rfl:fn=Tryz.f4:=(Option.some.inj (Tryz.func4.symm.trans hfn)).symm
   exact ⟨by as_aux_lemma=>kernel_rfl,fun j t ht=>by
    rw [Tryz.params4] at ht
    have h3:Tryz.prog.wantsStandIn t=false:=by
     have hm:=Array.mem_of_getElem? ht
     simp only [List.mem_toArray,List.mem_cons,List.not_mem_nil,or_false] at hm
     rcases hm with rfl|rfl|rfl
     ·exact (show Tryz.prog.wantsStandIn 22=false by as_aux_lemma=>kernel_rfl)
     ·exact (show Tryz.prog.wantsStandIn 25=false by as_aux_lemma=>kernel_rfl)
     ·exact (show Tryz.prog.wantsStandIn 39=false by as_aux_lemma=>kernel_rfl)
    exact h3⟩)
  (by as_aux_lemma=>kernel_rfl)
#print axioms fnExactCollectGens_holds
end Go.Proofs.YtobkkecdnlecgaaGreatDoor

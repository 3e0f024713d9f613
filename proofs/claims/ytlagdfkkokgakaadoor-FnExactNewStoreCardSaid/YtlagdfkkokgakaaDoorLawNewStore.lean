/- Proved: the statement on NewStore of this seat (the last theorem), for every argument that its own guards let in; nothing else is assumed. -/
import Derived.Test.YtlagdfkkokgakaaDoorLawNewStorex3
namespace Go.Proofs.YtlagdfkkokgakaaDoor
set_option maxHeartbeats 4000000 in
theorem fnExactNewStore_holds:Rows.FnExactNewStoreCardSaid:=
 Claim7.holds_tied_plain_at .later [] [.data,.data,.data] true (true,"08db638e57098a281bd85b94b4614bfc1d83edb7c13e0b33921331e0ed7d1574") false
  fnExactNewStore.proved (fun _ h=>by cases h) (by as_aux_lemma=>kernel_rfl) (fun _ h=>by cases h) fnExactNewStore_row_tie rfl ⟨rfl,rfl⟩ (by as_aux_lemma=>kernel_rfl) rfl
  (fun f fn hf hfn=>by
   obtain rfl:f=3:=Option.some.inj ((show Tryd.prog.funcNamed "loop.example/g00090/laws.FnExactNewStore" =some 3 by as_aux_lemma=>kernel_rfl).symm.trans hf) |>.symm
   obtain rfl:fn=Tryd.f3:=(Option.some.inj (Tryd.func3.symm.trans hfn)).symm
   exact ⟨by as_aux_lemma=>kernel_rfl,fun j t ht=>by
    rw [Tryd.params3] at ht
    have h3:Tryd.prog.wantsStandIn t=false:=by
     have hm:=Array.mem_of_getElem? ht
     simp only [List.mem_toArray,List.mem_cons,List.not_mem_nil,or_false] at hm
     rcases hm with rfl
     ·exact (show Tryd.prog.wantsStandIn 2=false by as_aux_lemma=>kernel_rfl)
    exact h3⟩)
  (by as_aux_lemma=>kernel_rfl)
#print axioms fnExactNewStore_holds
end Go.Proofs.YtlagdfkkokgakaaDoor

/- Proved: the statement on WasteOf of this seat (the last theorem), for every argument that its own guards let in; nothing else is assumed. -/
import Derived.Test.YtlagdfkkokgakaaGreatDoorLawWasteOfx3
namespace Go.Proofs.YtlagdfkkokgakaaGreatDoor
set_option maxHeartbeats 4000000 in
theorem fnExactWasteOf_holds:Rows.FnExactWasteOfCardSaid:=
 Claim7.holds_tied_plain_at .later [] [.data,.data,.data,.data,.pinned] true (true,"eec7b057cec2ae3f64184b2ca9e4a963c5a7656d3a78eb18ca1143054eac0cf5") false
  fnExactWasteOf.proved (fun _ h=>by cases h) (by as_aux_lemma=>kernel_rfl) (fun _ h=>by cases h) fnExactWasteOf_row_tie rfl ⟨rfl,rfl⟩ (by as_aux_lemma=>kernel_rfl) rfl
  (fun f fn hf hfn=>by
   obtain rfl:f=7:=Option.some.inj ((show Tryz.prog.funcNamed "loop.example/g00090/laws.FnExactWasteOf" =some 7 by as_aux_lemma=>kernel_rfl).symm.trans hf) |>.symm
   obtain rfl:fn=Tryz.f7:=(Option.some.inj (Tryz.func7.symm.trans hfn)).symm
   exact ⟨by as_aux_lemma=>kernel_rfl,fun j t ht=>by
    rw [Tryz.params7] at ht
    have h3:Tryz.prog.wantsStandIn t=false:=by
     have hm:=Array.mem_of_getElem? ht
     simp only [List.mem_toArray,List.mem_cons,List.not_mem_nil,or_false] at hm
     rcases hm with rfl|rfl
     ·exact (show Tryz.prog.wantsStandIn 22=false by as_aux_lemma=>kernel_rfl)
     ·exact (show Tryz.prog.wantsStandIn 41=false by as_aux_lemma=>kernel_rfl)
    exact h3⟩)
  (by as_aux_lemma=>kernel_rfl)
#print axioms fnExactWasteOf_holds
end Go.Proofs.YtlagdfkkokgakaaGreatDoor

/- Proved: the statement on FnRoots of this seat (the last theorem), for every argument that its own guards let in; nothing else is assumed. -/
import Derived.Test.YtghacmkpcjdpjaaGreatDoorLawFnRootsx3
namespace Go.Proofs.YtghacmkpcjdpjaaGreatDoor
set_option maxHeartbeats 4000000 in
theorem fnRoots_holds:Rows.FnRootsCardSaid:=
 Claim7.holds_tied_plain_at .later [] [.data,.data,.data,.data,.pinned] true (true,"601cfa1278eea285182bd7c5c4c2a9bf274e0d1ca23d5d60d58d8c47ebdb3f44") false
  fnRoots.proved (fun _ h=>by cases h) (by as_aux_lemma=>kernel_rfl) (fun _ h=>by cases h) fnRoots_row_tie rfl ⟨rfl,rfl⟩ (by as_aux_lemma=>kernel_rfl) rfl
  (fun f fn hf hfn=>by
   obtain rfl:f=3:=Option.some.inj ((show Tryz.prog.funcNamed "loop.example/g00090/laws.FnRoots" =some 3 by as_aux_lemma=>kernel_rfl).symm.trans hf) |>.symm
   obtain rfl:fn=Tryz.f3:=(Option.some.inj (Tryz.func3.symm.trans hfn)).symm
   exact ⟨by as_aux_lemma=>kernel_rfl,fun j t ht=>by
    rw [Tryz.params3] at ht
    have h3:Tryz.prog.wantsStandIn t=false:=by
     have hm:=Array.mem_of_getElem? ht
     simp only [List.mem_toArray,List.mem_cons,List.not_mem_nil,or_false] at hm
     rcases hm with rfl
     ·exact (show Tryz.prog.wantsStandIn 22=false by as_aux_lemma=>kernel_rfl)
    exact h3⟩)
  (by as_aux_lemma=>kernel_rfl)
#print axioms fnRoots_holds
end Go.Proofs.YtghacmkpcjdpjaaGreatDoor

import Derived.Test.YtobkkecdnlecgaaGreatDoorLawSystemFaultx3
namespace Go.Proofs.YtobkkecdnlecgaaGreatDoor
set_option maxHeartbeats 4000000 in
/-- The row, under a short name, for the claim. -/
theorem fnExactSystemFault_holds : Rows.FnExactSystemFaultCardSaid :=
  Claim7.holds_tied_plain_at .later [] [.data, .data, .data, .data, .pinned] true (true, "c3761a928c79443fb9829df117cc113367268b826bfb7410d7f17fd4b697fe3a") false
    fnExactSystemFault.proved (fun _ h => by cases h) (by as_aux_lemma => kernel_rfl) (fun _ h => by cases h) fnExactSystemFault_row_tie rfl ⟨rfl, rfl⟩ (by as_aux_lemma => kernel_rfl) rfl
    (fun f fn hf hfn => by
      obtain rfl : f = 3 := Option.some.inj ((show Tryz.prog.funcNamed "loop.example/g00090/laws.FnExactSystemFault" = some 3 by as_aux_lemma => kernel_rfl).symm.trans hf) |>.symm
      obtain rfl : fn = Tryz.f3 := (Option.some.inj (Tryz.func3.symm.trans hfn)).symm
      exact ⟨by as_aux_lemma => kernel_rfl, fun j t ht => by
        rw [Tryz.params3] at ht
        have h3 : Tryz.prog.wantsStandIn t = false := by
          have hm := Array.mem_of_getElem? ht
          simp only [List.mem_toArray, List.mem_cons, List.not_mem_nil, or_false] at hm
          rcases hm with rfl
          · exact (show Tryz.prog.wantsStandIn 27 = false by as_aux_lemma => kernel_rfl)
        exact h3⟩)
    (by as_aux_lemma => kernel_rfl)
#print axioms fnExactSystemFault_holds
end Go.Proofs.YtobkkecdnlecgaaGreatDoor

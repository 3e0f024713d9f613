import Derived.Test.YtnfkinofcphflaaGreatDoorLawSetOfGenx3
namespace Go.Proofs.YtnfkinofcphflaaGreatDoor
set_option maxHeartbeats 4000000 in
/-- The row, under a short name, for the claim. -/
theorem fnExactSetOfGen_holds : Rows.FnExactSetOfGenCardSaid :=
  Claim7.holds_tied_plain_at .later [] [.data, .data, .data, .data, .pinned] true (true, "0338eddc160d3203cc1052a0a08cf78f73c2d447f2f9106a8a3216f3c1e6e4d6") false
    fnExactSetOfGen.proved (fun _ h => by cases h) (by as_aux_lemma => kernel_rfl) (fun _ h => by cases h) fnExactSetOfGen_row_tie rfl ⟨rfl, rfl⟩ (by as_aux_lemma => kernel_rfl) rfl
    (fun f fn hf hfn => by
      obtain rfl : f = 8 := Option.some.inj ((show Tryz.prog.funcNamed "loop.example/g00090/laws.FnExactSetOfGen" = some 8 by as_aux_lemma => kernel_rfl).symm.trans hf) |>.symm
      obtain rfl : fn = Tryz.f8 := (Option.some.inj (Tryz.func8.symm.trans hfn)).symm
      exact ⟨by as_aux_lemma => kernel_rfl, fun j t ht => by
        rw [Tryz.params8] at ht
        have h3 : Tryz.prog.wantsStandIn t = false := by
          have hm := Array.mem_of_getElem? ht
          simp only [List.mem_toArray, List.mem_cons, List.not_mem_nil, or_false] at hm
          rcases hm with rfl | rfl | rfl
          · exact (show Tryz.prog.wantsStandIn 45 = false by as_aux_lemma => kernel_rfl)
          · exact (show Tryz.prog.wantsStandIn 73 = false by as_aux_lemma => kernel_rfl)
          · exact (show Tryz.prog.wantsStandIn 2 = false by as_aux_lemma => kernel_rfl)
        exact h3⟩)
    (by as_aux_lemma => kernel_rfl)
#print axioms fnExactSetOfGen_holds
end Go.Proofs.YtnfkinofcphflaaGreatDoor

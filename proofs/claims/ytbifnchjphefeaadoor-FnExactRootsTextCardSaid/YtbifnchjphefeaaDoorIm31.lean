import Derived.Test.YtbifnchjphefeaaDoorIm30
set_option linter.unusedVariables false
namespace Go.Im
open Go

section
variable {P : Program} {W : World}

theorem arg_struct {β : Nat → Im.Loc} {N : Nat → Prop} {v : Value} {ec : List D} (hv : ∃ cs, v = .agg cs) (hr : RepCs β N W false ec v.cells.toList []) (hone : ec.all okCell = true) : Rep β N W true (.ag ec) v [] := by
  obtain ⟨cs, rfl⟩ := hv
  simp only [Rep]
  exact ⟨trivial, cs.toList, by simp, repCs_one2 hone hr, hr.up⟩

theorem arg_one {β : Nat → Im.Loc} {N : Nat → Prop} {v : Value} {d : D} (hv : v.cells = #[v]) (hr : RepCs β N W false [d] v.cells.toList []) : Rep β N W true d v [] := by
  rw [hv] at hr
  simp only [RepCs] at hr
  obtain ⟨u, us, b1, b2, h1, h2, h3, h4⟩ := hr
  cases h1
  rw [(List.append_eq_nil_iff.1 h2.symm).1] at h3
  exact h3.up

theorem args_nil {β : Nat → Im.Loc} {N : Nat → Prop} : RepCs β N W true [] [] [] := by simp [RepCs]

theorem args_cons {β : Nat → Im.Loc} {N : Nat → Prop} {d : D} {v : Value} {ds : List D} {vs : List Value} (h1 : Rep β N W true d v []) (h2 : RepCs β N W true ds vs []) : RepCs β N W true (d :: ds) (v :: vs) [] := by
  simp only [RepCs]
  exact ⟨v, vs, [], [], rfl, rfl, h1, h2⟩

/-- What is left when the law has returned true. -/
def Still (W : World) (e : Ending) (W' : World) : Prop := e = .returned (.bool true) ∧ W'.os = W.os ∧ W'.output = W.output ∧ ∀ b, b < W.heap.size → W'.heap[b]? = W.heap[b]?

theorem law_calls {f : FuncId} {args : List D} {vs : List Value} (hok : Ok P f args [] (some (.sc (.bool true), []))) (hargs : ∀ β : Nat → Im.Loc, RepCs β (fun b => b < W.heap.size) W true args vs []) (hg : ∀ q ∈ gtab P, q.1 < W.heap.size ∧ Tab W q.1 q.2) : Calls P f vs.toArray W (Still W) := by
  refine (hok _ rfl W (fun b => b < W.heap.size) (fun _ => ⟨true, 0, 0, 0, 0⟩) vs [] (hargs _) rfl (by simp) (by simp) (fun b hb => ⟨hb, by simp⟩) hg).mono fun e W' h => ?_
  obtain ⟨v, b1, b2, rfl, hq, _, hk, _, _, hr, _⟩ := h
  simp only [Rep] at hr
  exact ⟨by rw [hr.1], hq.1, hq.2, fun b hb => hk b hb (by simp)⟩

theorem no_tables (h : (gtab P).isEmpty = true) : ∀ q ∈ gtab P, q.1 < W.heap.size ∧ Tab W q.1 q.2 := by
  intro q hq
  rw [List.isEmpty_iff] at h
  rw [h] at hq
  cases hq

theorem still_kept {W' : World} {e : Ending} (h : Still W e W') (may : MemPlace → Prop) : W.keptBut W' may := by
  refine ⟨h.2.1, h.2.2.1, fun i hi => ?_⟩
  rw [h.2.2.2 i hi]
  split <;> simp_all

theorem still_same {W' : World} {e : Ending} (h : Still W e W') {p : MemPlace} (hp : p.block < W.heap.size) : W.sameAt W' p := by
  cases p with
  | cell b o => exact World.cell?_of_block (w := W) (h.2.2.2 b hp)
  | map b => exact h.2.2.2 b hp

theorem still_trod {H : Type} {enc : TypeId × Value → H} {t : TypeId} {W' : World} {e : Ending} (hs : Still W e W') (hl : laidOutB P = true) (hr : P.readableRec t = true) (hrow : t < P.types.size) {v : Value} {d : DataW H} {ps : List MemPlace}
    (h : DataW.Trod enc P W 0 (fun _ => true) true t v d ps) (hlt : ∀ x ∈ ps, x.block < W.heap.size) : DataW.Trod enc P W' 0 (fun b => decide (b < W.heap.size)) true t v d ps :=
  WideElems.Trod_stays hl hr hrow h (fun x hx => still_same hs (hlt x hx)) (fun x hx => by simpa using hlt x hx)
end
end Go.Im

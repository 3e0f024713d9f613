import Derived.Test.YtbifnchjphefeaaDoorIm45
import Derived.Lib.LaidTab
import Derived.Lib.ItoaNum
import Derived.Sort.Grow
import Derived.Deep.Draws
set_option linter.unusedVariables false
namespace Go.Im
open Go

/-! ### Contracts that read a table -/
theorem tabIs_of {P : Program} {w : World} {name : String} {g : Nat} {k : IntKind} {zs : List Int} (hG : ∀ q ∈ gtab P, Tab w q.1 q.2) (hn : P.globalNamed name = some g) (hl : lk (gtab P) g = some (zs.map fun z => Value.int k z)) : Lib.TabIs P w name k zs := by
  obtain ⟨e, fz, h⟩ := hG _ (lk_mem hl)
  unfold Lib.TabIs World.var?
  rw [hn]
  simp only [Option.bind_some]
  rw [h]

/-- Numbers and texts in, a number or a text out; the world only grows. -/
theorem Ok_scg {P : Program} {f : FuncId} {vs : List Value} {v : Value} (h : ∀ w, (∀ q ∈ gtab P, Tab w q.1 q.2) → Calls P f vs.toArray w fun e w' => e = .returned v ∧ w'.os = w.os ∧ w'.output = w.output ∧ w.heap.size ≤ w'.heap.size ∧ ∀ b, b < w.heap.size → w'.heap[b]? = w.heap[b]?) : Ok P f (vs.map D.sc) [] (some (.sc v, [])) := by
  intro out ho w N β us bs ha hh hnd hlt hN hG
  cases ho
  obtain ⟨rfl, _⟩ := repCs_sc0 ha
  refine (h w (fun q hq => (hG q hq).2)).mono ?_
  rintro e w' ⟨rfl, h1, h2, h3, h4⟩
  exact ⟨v, [], [], rfl, ⟨h1, h2⟩, h3, fun b hb _ => h4 b hb, by simp, by simp, by simp [Rep], rfl⟩

/-- The same, as the shelf says it: blocks are added, answers are drawn. -/
theorem Ok_grow {P : Program} {f : FuncId} {vs : List Value} {v : Value} (h : ∀ w, (∀ q ∈ gtab P, Tab w q.1 q.2) → Calls P f vs.toArray w fun e w' => e = .returned v ∧ ∃ k os, w' = Sort.grow (w.drewN k) os) : Ok P f (vs.map D.sc) [] (some (.sc v, [])) := by
  refine Ok_scg fun w hG => (h w hG).mono ?_
  rintro e w' ⟨rfl, k, os, rfl⟩
  refine ⟨rfl, rfl, rfl, ?_, fun b hb => ?_⟩
  · show w.heap.size ≤ (w.heap ++ os).size
    rw [Array.size_append]
    exact Nat.le_add_right _ _
  · show (w.heap ++ os)[b]? = w.heap[b]?
    rw [Array.getElem?_append_left hb]
end Go.Im

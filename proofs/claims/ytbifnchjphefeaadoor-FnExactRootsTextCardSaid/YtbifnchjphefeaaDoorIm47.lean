import Derived.Test.YtbifnchjphefeaaDoorIm46
import Derived.LaidSub
set_option linter.unusedVariables false
namespace Go.Im
open Go

theorem tab_of_tabIs {P : Program} {w : World} {name : String} {g : Nat} {k : IntKind} {zs : List Int} (h : Lib.TabIs P w name k zs) (hn : P.globalNamed name = some g) : g < w.heap.size ∧ Tab w g (zs.map fun z => Value.int k z) := by
  unfold Lib.TabIs World.var? at h
  rw [hn] at h
  simp only [Option.bind_some] at h
  split at h
  · rename_i cs e fz hh
    cases h
    exact ⟨(Array.getElem?_eq_some_iff.1 hh).1, e, fz, hh⟩
  · cases h

/-- A table of the row's list, wherever it stands. -/
theorem tab_of_laid {P : Program} {w : World} {l : List (String × DataW Unit)} {name : String} {g n : Nat} {t e : TypeId} {k : IntKind} {zs : List Int} (h : laidMet P l w) (hl : l.filter (fun x => x.1 == name) = [(name, Lib.tabData k zs)])
    (hg : P.globalNamed name = some g) (hty : (P.globals[g]?).map (·.type) = some t) (ht : P.underlying t = some (.array n e)) (he : P.underlying e = some (.int k)) (hce : P.cellsOf e = 1) (hct : P.cellsOf t = n) : g < w.heap.size ∧ Tab w g (zs.map fun z => Value.int k z) := by
  have h2 := h.filter (fun x => x.1 == name)
  rw [hl] at h2
  exact tab_of_tabIs (Lib.tabIs_of_head hg hty ht he hce hct h2) hg
end Go.Im

import Derived.Test.YtbifnchjphefeaaDoorIm38
import Derived.Lib.Bytealg
set_option linter.unusedVariables false
namespace Go.Im
open Go

/-! ### A function that calls itself -/
def recF {A R : Type} (b : (A → Option R) → A → Option R) : Nat → A → Option R
  | 0, _ => none
  | n + 1, x => b (recF b n) x

theorem Ok_none {P : Program} {f : FuncId} {args : List D} {hin : List Ent} {T : Type} {g : T → D × List Ent} : Ok P f args hin ((none : Option T).map g) := fun _ h => by cases h

/-! ### Contracts of the library -/
theorem repCs_sc0 {β : Nat → Loc} {N : Nat → Prop} {w : World} : ∀ {vs us : List Value} {bs : List Nat}, RepCs β N w true (vs.map D.sc) us bs → us = vs ∧ bs = []
  | [], us, bs, h => by simpa [RepCs] using h
  | v :: vs, us, bs, h => by
    simp only [List.map_cons, RepCs] at h
    obtain ⟨u, us', b1, b2, rfl, rfl, h3, h4⟩ := h
    simp only [Rep] at h3
    obtain ⟨rfl, rfl⟩ := h3
    obtain ⟨rfl, rfl⟩ := repCs_sc0 h4
    exact ⟨rfl, rfl⟩

/-- Numbers and texts in, a number or a text out, and the world as it was. -/
theorem Ok_sc {P : Program} {f : FuncId} {vs : List Value} {v : Value} (h : ∀ w, Calls P f vs.toArray w fun e w' => e = .returned v ∧ w' = w) : Ok P f (vs.map D.sc) [] (some (.sc v, [])) := by
  intro out ho w N β us bs ha hh hnd hlt hN _
  cases ho
  obtain ⟨rfl, _⟩ := repCs_sc0 ha
  refine (h w).mono ?_
  rintro e w' ⟨rfl, rfl⟩
  exact ⟨v, [], [], rfl, ⟨rfl, rfl⟩, Nat.le_refl _, fun _ _ _ => rfl, by simp, by simp, by simp [Rep], rfl⟩

def cmpB (a b : ByteArray) : Int := Lib.compareBytes a.data.toList b.data.toList
end Go.Im

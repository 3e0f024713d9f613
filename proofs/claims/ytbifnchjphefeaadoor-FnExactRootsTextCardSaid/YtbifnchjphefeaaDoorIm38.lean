import Derived.Test.YtbifnchjphefeaaDoorIm37
set_option linter.unusedVariables false
namespace Go.Im
open Go

/-- What a call finds. -/
structure Wd where
  w0 : World
  N0 : Nat → Prop
  O0 : List Nat
  β0 : Nat → Loc

def Wd.g (q : Wd) (P : Program) (f m nt : Nat) : Ctx := ⟨P, f, q.w0, q.N0, q.O0, m, q.β0, nt⟩

theorem Ok_of3 {P : Program} {f : FuncId} {args : List D} {hin : List Ent} {T : Type} {e : Option T} {g : T → D × List Ent} (fc : Code) (fn : Func) (m nt : Nat)
    (h : ∀ (q : Wd), J (q.g P f m nt) fc [.c 1] ⟨args.zipIdx.map (fun x => (x.2, x.1)), enumE hin, D.men.menL args ++ menH (enumE hin)⟩ e (fun r => some (g r)))
    (hf : (P.funcs[f]?, fn.body, fn.ntmps, Nat.ble args.length nt, hin.length) = (some fn, some fc, nt, true, m) := by kernel_rfl) : Ok P f args hin (e.map g) := by
  simp only [Prod.mk.injEq] at hf
  obtain ⟨h1, h2, h3, h4, h5⟩ := hf
  subst h5
  exact Ok_of2 h1 h2 h3 (Nat.le_of_ble_eq_true h4) (fun w0 N0 O0 β0 => h ⟨w0, N0, O0, β0⟩)

section
variable {Γ : Ctx} {fc : Code} {k : List II} {σ : St} {T : Type} {K : T → Option (D × List Ent)}

theorem J_if2 {b : Bool} {x y : Option T} (t : Nat) (h1 : b = true → J Γ fc k ⟨(t, .sc (.bool true)) :: σ.tm, σ.hp, σ.us⟩ x K) (h2 : b = false → J Γ fc k ⟨(t, .sc (.bool false)) :: σ.tm, σ.hp, σ.us⟩ y K) (hl : lk σ.tm t = some (.sc (.bool b)) := by kernel_rfl) :
    J Γ fc k σ (if b then x else y) K := J_if t hl h1 h2

variable {p : Nat}
/-- An easy operation whose truth value is known. -/
theorem orcL {rest : List (Nat × Cert)} {b b' : Bool} (i : Nat) (tm : List (Nat × D)) (hp : List (Nat × Ent)) (hb : b = b') (hr : OrcV Γ fc p rest)
    (h : (opAt fc p i).map (fun o => (o.guard, ac0 Γ.P none o ⟨tm, hp, []⟩)) = some (none, some { tn := tm, hn := hp, out := some (.sc (.bool b)) }) := by kernel_rfl) :
    OrcV Γ fc p ((i, { tn := tm, hn := hp, out := some (.sc (.bool b')) }) :: rest) :=
  ⟨orcA (id := none) tm hp _ h rfl (by rw [hb]), hr⟩

theorem orcLG {rest : List (Nat × Cert)} {b b' : Bool} (i g t : Nat) (bg : Bool) (tm : List (Nat × D)) (hp : List (Nat × Ent)) (hb : b = b') (hr : OrcV Γ fc p rest)
    (h : ((opAt fc p i).map (fun o => (o.guard, ac0 Γ.P none { o with guard := none } ⟨tm, hp, []⟩)), dstAt fc p g) = (some (some (g, bg), some { tn := tm, hn := hp, out := some (.sc (.bool b)) }), some t) := by kernel_rfl) :
    OrcV Γ fc p ((i, { tn := (t, .sc (.bool bg)) :: tm, hn := hp, out := some (.sc (.bool b')) }) :: rest) := by
  simp only [Prod.mk.injEq] at h
  exact ⟨orcAG (id := none) tm hp _ h.1 h.2 rfl (by rw [hb]), hr⟩
end
end Go.Im

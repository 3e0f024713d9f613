import Derived.Test.YtbifnchjphefeaaDoorIm21
set_option linter.unusedVariables false
namespace Go.Im
open Go

variable {Γ : Ctx} {fc : Code} {k : List II} {σ : St} {T U : Type} {K : T → Option (D × List Ent)}

/-- What a loop comes to. -/
inductive Fl (R V : Type) where
  | ret (r : R)
  | nxt (v : V)

def Fl.go {R V S : Type} (fr : R → Option S) (fn : V → Option S) : Fl R V → Option S
  | .ret r => fr r
  | .nxt v => fn v

theorem J_bindK {y : Option U} {f : U → Option T} (h : J Γ fc k σ y (fun x => (f x).bind K)) : J Γ fc k σ (y.bind f) K := by
  intro r out he hk
  cases hy : y with
  | none => rw [hy] at he; cases he
  | some x =>
    rw [hy] at he
    exact h x out hy (by show (f x).bind K = some out; rw [show f x = some r from he]; exact hk)

theorem J_bool {tm : List (Nat × D)} {hp : List (Nat × Ent)} {e : Option T} {t : Nat} {b : Bool} (b' : Bool) (h : b = b') (hj : J Γ fc k (St.mk' ((t, .sc (.bool b')) :: tm) hp) e K) :
    J Γ fc k (St.mk' ((t, .sc (.bool b)) :: tm) hp) e K := by subst h; exact hj

theorem J_nxt {R V S : Type} {v : V} {fr : R → Option S} {fn : V → Option S} {K : S → Option (D × List Ent)} (h : J Γ fc k σ (fn v) K) : J Γ fc k σ (some (Fl.nxt (R := R) v)) (fun x => (Fl.go fr fn x).bind K) :=
  J_next (q := Fl.nxt) (fun out ho => Option.bind_eq_some_iff.1 ho) h

def notSel : Op → Bool
  | .select _ _ => false
  | _ => true

/-- An operation on scalars, told. -/
theorem orcS {p i : Nat} {ns : List (Nat × D)} {v u : Value} (h : (opAt fc p i).map (fun o => (o.guard.isNone && notSel o.op, allSc ns o.op.operands.toList, pureSem Γ.P (execOp (rho ns) o))) = some (true, some ns, some (.value v))) (hvu : v = u) (hu : okSc u = true) :
    ∀ id ops draw, sub fc p = .region id ops draw → ∀ o, ops[i]? = some o → Valid Γ ops o { tn := ns, out := some (scD u) } := by
  intro id ops draw hs o ho
  have e : opAt fc p i = some o := by unfold opAt; rw [hs]; exact ho
  rw [e] at h
  simp only [Option.map_some, Option.some.injEq, Prod.mk.injEq, Bool.and_eq_true] at h
  obtain ⟨⟨h1, h2⟩, h3, h4⟩ := h
  refine valid_sc (tm := ns) (by simpa using h1) (fun cs b hop => ?_) h3 h4 hvu hu
  rw [hop] at h2
  simp [notSel] at h2

/-- The same behind a guard that is met. -/
theorem orcSG {p i g t : Nat} {b : Bool} {ns : List (Nat × D)} {v u : Value} (h : (opAt fc p i).map (fun o => (notSel o.op, o.guard, allSc ns o.op.operands.toList, pureSem Γ.P (execOp (rho ns) o))) = some (true, some (g, b), some ns, some (.value v))) (hd : dstAt fc p g = some t) (hvu : v = u) (hu : okSc u = true) :
    ∀ id ops draw, sub fc p = .region id ops draw → ∀ o, ops[i]? = some o → Valid Γ ops o { tn := (t, .sc (.bool b)) :: ns, out := some (scD u) } := by
  intro id ops draw hs o ho
  have e : opAt fc p i = some o := by unfold opAt; rw [hs]; exact ho
  rw [e] at h
  simp only [Option.map_some, Option.some.injEq, Prod.mk.injEq] at h
  obtain ⟨h2, hg, h3, h4⟩ := h
  have hv : Valid Γ ops { o with guard := none } { tn := ns, out := some (scD u) } := by
    refine valid_sc (tm := ns) rfl (fun cs b hop => ?_) h3 h4 hvu hu
    simp only at hop
    rw [hop] at h2
    simp [notSel] at h2
  refine valid_guard hg ?_ rfl hv
  unfold dstAt opAt at hd
  rw [hs] at hd
  exact hd

abbrev w64 (x : Int) : Int := IntKind.i64.wrap x

end Go.Im

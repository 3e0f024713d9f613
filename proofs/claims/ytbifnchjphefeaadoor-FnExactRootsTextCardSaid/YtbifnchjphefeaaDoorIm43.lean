import Derived.Test.YtbifnchjphefeaaDoorIm42
import Derived.Laws.StructEq
set_option linter.unusedVariables false
namespace Go.Im
open Go

/-! ### Are two structs the same -/
def mkV (P : Program) (t : TypeId) (xs : List Value) : Option Value := match aggOf P t with
  | some true => some (.agg xs.toArray)
  | some false => xs.head?
  | none => none

def eqFs (P : Program) (g : TypeId → List Value → List Value → Option Bool) (xs ys : List Value) : List Field → Option Bool
  | [] => some true
  | f :: fs => if f.name = "_" then none else match szOf P f.type with
    | some z => match g f.type ((xs.drop f.offset).take z) ((ys.drop f.offset).take z), eqFs P g xs ys fs with
      | some a, some r => some (a && r)
      | _, _ => none
    | none => none

def eqT (P : Program) : Nat → TypeId → List Value → List Value → Option Bool
  | 0, _, _, _ => none
  | d + 1, t, xs, ys => match P.underlying t with
    | some (.struct fs) => if P.stoodInHeld t = false ∧ aggOf P t = some true then eqFs P (eqT P d) xs ys fs.toList else none
      | some (.int _) => match aggOf P t, xs, ys with
      | some false, .int k1 a :: _, .int k2 b :: _ => if k1 = k2 then some (a == b) else none
      | _, _, _ => none
    | some .bool => match aggOf P t, xs, ys with
      | some false, .bool a :: _, .bool b :: _ => some (a == b)
      | _, _, _ => none
    | some .string => match aggOf P t, xs, ys with
      | some false, .string a :: _, .string b :: _ => some (a.toList == b.toList)
      | _, _, _ => none
    | _ => none

theorem run_part {P : Program} {w : World} {t : TypeId} {cs : List Value} {off z : Nat} {v : Value} (hz : szOf P t = some z) (hz0 : aggOf P t = some false → 0 < z) (h : mkV P t ((cs.drop off).take z) = some v) : (part t cs.toArray off).run P w = .ok v w := by
  unfold mkV at h
  unfold part
  split at h
  · rename_i ha
    cases h
    rw [run_bind_ok (pureSem_run _ _ w ha)]
    simp only [if_true]
    rw [run_bind_ok (pureSem_run _ _ w hz)]
    have : (cs.toArray.extract off (off + z)) = ((cs.drop off).take z).toArray := by
      apply Array.ext'
      simp [List.take_drop]
    rw [this]
    rfl
  · rename_i ha
    rw [run_bind_ok (pureSem_run _ _ w ha)]
    simp only [Bool.false_eq_true, if_false]
    have : cs.toArray[off]? = some v := by
      rw [List.head?_take, if_neg (by have := hz0 ha; omega), List.head?_drop] at h
      simpa using h
    rw [this]
    rfl
  · cases h

theorem eqT_run {P : Program} : ∀ (d k : Nat) (t : TypeId) (xs ys : List Value) (vx vy : Value) (r : Bool) (w : World), eqT P d t xs ys = some r → mkV P t xs = some vx → mkV P t ys = some vy → (Op.equalIn (d + k) t vx vy).run P w = .ok r w
  | 0, k, t, xs, ys, vx, vy, r, w, h, _, _ => by simp [eqT] at h
  | d + 1, k, t, xs, ys, vx, vy, r, w, h, hx, hy => by
    rw [show d + 1 + k = (d + k) + 1 by omega]
    unfold eqT at h
    unfold mkV at hx hy
    split at h
    · rename_i fs hfs
      split at h
      · rename_i hc
        rw [hc.2] at hx hy
        cases hx
        cases hy
        have hff : P.fieldsOf t = fs := by unfold Program.fieldsOf; rw [hfs]
        rw [run_equalIn_struct w (d + k) t _ _ (by rw [hff]; exact hfs) hc.1, hff]
        have key : ∀ (l : List Field) (r : Bool), eqFs P (eqT P d) xs ys l = some r → (Op.eqFields (d + k) xs.toArray ys.toArray l).run P w = .ok r w := by
          intro l
          induction l with
          | nil => intro r h; cases h; rfl
          | cons f l ih =>
            intro r h
            unfold eqFs at h
            split at h
            · cases h
            · rename_i hnm
              split at h
              · rename_i z hz
                split at h
                · rename_i a q ha hq
                  cases h
                  have hmk : ∀ (cs : List Value), (∃ a l', (cs.drop f.offset).take z = a :: l') ∨ aggOf P f.type = some true → aggOf P f.type ≠ none → ∃ v, mkV P f.type ((cs.drop f.offset).take z) = some v ∧ (part f.type cs.toArray f.offset).run P w = .ok v w := by
                    intro cs hcs hne
                    have : ∃ v, mkV P f.type ((cs.drop f.offset).take z) = some v := by
                      unfold mkV
                      rcases hcs with ⟨a, l', e⟩ | e
                      · cases hag : aggOf P f.type with
                        | none => exact absurd hag hne
                        | some b => cases b <;> simp [e]
                      · rw [e]; exact ⟨_, rfl⟩
                    obtain ⟨v, hv⟩ := this
                    refine ⟨v, hv, run_part hz (fun hf => ?_) hv⟩
                    rcases Nat.eq_zero_or_pos z with e | e
                    · subst e
                      unfold mkV at hv
                      rw [hf] at hv
                      simp at hv
                    · exact e
                  have hsh : aggOf P f.type ≠ none ∧ ((∃ a l', (xs.drop f.offset).take z = a :: l') ∨ aggOf P f.type = some true) ∧ ((∃ a l', (ys.drop f.offset).take z = a :: l') ∨ aggOf P f.type = some true) := by
                    cases d with
                    | zero => simp [eqT] at ha
                    | succ d =>
                      unfold eqT at ha
                      split at ha
                      · split at ha
                        · rename_i hc'
                          exact ⟨by rw [hc'.2]; simp, .inr hc'.2, .inr hc'.2⟩
                        · cases ha
                      all_goals first
                        | (split at ha
                           · rename_i g1 g2 g3
                             exact ⟨by rw [g1]; simp, .inl ⟨_, _, g2⟩, .inl ⟨_, _, g3⟩⟩
                           · cases ha)
                        | cases ha
                  obtain ⟨va, m1, p1⟩ := hmk xs hsh.2.1 hsh.1
                  obtain ⟨vb, m2, p2⟩ := hmk ys hsh.2.2 hsh.1
                  have he := eqT_run d k f.type _ _ va vb a w ha m1 m2
                  unfold Op.eqFields
                  rw [if_pos (by simpa using hnm), run_bind_ok p1, run_bind_ok p2, run_bind_ok he]
                  cases a
                  · rfl
                  · simp only [Bool.not_true, Bool.false_eq_true, if_false, Bool.true_and]
                    exact ih q hq
                · cases h
              · cases h
        exact key _ _ h
      · cases h
    · rename_i kk hu
      split at h
      · rename_i hag
        rw [hag] at hx hy
        cases hx
        cases hy
        split at h
        · rename_i e
          subst e
          cases h
          exact run_equalIn_int w (d + k) t _ _ _ _ hu
        · cases h
      · cases h
    · rename_i hu
      split at h
      · rename_i hag
        rw [hag] at hx hy
        cases hx
        cases hy
        cases h
        exact run_equalIn_bool' w (d + k) t _ _ hu
      · cases h
    · rename_i hu
      split at h
      · rename_i hag
        rw [hag] at hx hy
        cases hx
        cases hy
        cases h
        exact run_equalIn_string w (d + k) t _ _ hu
      · cases h
    · cases h

section
variable {Γ : Ctx} {ops : Array Oper} {o : Oper}

theorem repCs_vals {β : Nat → Loc} {N : Nat → Prop} {w : World} {top : Bool} : ∀ {us ws : List Value} {bs : List Nat}, RepCs β N w top (us.map D.sc) ws bs → ws = us
  | [], ws, bs, h => by simp only [List.map_nil, RepCs] at h; exact h.1
  | u :: us, ws, bs, h => by
    simp only [List.map_cons, RepCs, Rep] at h
    obtain ⟨v, vs, b1, b2, rfl, _, h3, h4⟩ := h
    rw [h3.1, repCs_vals h4]

theorem run_eqGuard {P : Program} {w : World} {b : BinOp} {T : TypeId} {x y : Operand} {xs ys : Array Value} (h : P.eqGuardType P.depth T = false) : (eqGuard b T x y (.agg xs) (.agg ys)).run P w = .ok () w := by
  have key : (do
      let __do_lift ← program
      let __do_lift_1 ← program
      if (!__do_lift.eqGuardType __do_lift_1.depth T) = true then pure ()
      else do
        let __do_lift ← Op.eqGuardIn Op.maxDepth T (Value.agg xs) (Value.agg ys)
        if __do_lift = true then unsupported (.noEntry "binop/eql: two nil values of an interface type with methods, in a part of a struct or an array") else pure () : Sem Unit).run P w = .ok () w := by
    rw [run_bind_ok (a := P) (w' := w) rfl]
    rw [run_bind_ok (a := P) (w' := w) rfl]
    rw [h]
    rfl
  unfold eqGuard
  split
  · exact key
  · exact key
  · rfl

/-- Two structs of plain cells. -/
theorem v_steq {c : Cert} {b : BinOp} {x y : Operand} {T U : TypeId} {us vs : List Value} {d : Nat} {r q : Bool} (hg : o.guard = none) (hop : o.op = .binOp b T x y U) (hb : (b = .eql ∧ q = r) ∨ (b = .neq ∧ q = !r)) (hc : c = { tn := c.tn, out := some (.sc (.bool q)) })
    (hx : OpF c x (.ag (us.map D.sc))) (hy : OpF c y (.ag (vs.map D.sc))) (hagg : aggOf Γ.P T = some true) (hgt : Γ.P.eqGuardType Γ.P.depth T = false) (hd : d ≤ 10000) (he : eqT Γ.P d T us vs = some r) : Valid Γ ops o c := by
  refine valid_val (d := .sc (.bool q)) (f := fun ρ => do eqGuard b T x y (ρ x) (ρ y); binOp b T (ρ x) (ρ y)) hg (fun ρ => by simp [execOp, hop]) (by rw [hc]) fun β bs σ a w hn hr => ?_
  have h1 := OpF.rep hx hn hr
  have h2 := OpF.rep hy hn hr
  simp only [Rep] at h1 h2
  obtain ⟨_, w1, e1, _, r1⟩ := h1
  obtain ⟨_, w2, e2, _, r2⟩ := h2
  rw [repCs_vals r1] at e1
  rw [repCs_vals r2] at e2
  refine ⟨.bool q, ?_, by simp [Rep]⟩
  rw [e1, e2]
  rw [run_bind_ok (run_eqGuard hgt)]
  have hrun := eqT_run d (10000 - d) T us vs (.agg us.toArray) (.agg vs.toArray) r w he (by unfold mkV; rw [hagg]) (by unfold mkV; rw [hagg])
  rw [show d + (10000 - d) = 10000 by omega] at hrun
  rcases hb with ⟨rfl, rfl⟩ | ⟨rfl, rfl⟩
  · rw [run_eql_struct, hrun]; rfl
  · rw [run_neq_struct, hrun]; rfl

theorem x_seq {b : BinOp} {q r : Bool} (T U : Nat) (x y : Operand) (us vs : List Value) (hb : (b = .eql ∧ q = r) ∨ (b = .neq ∧ q = !r)) (hx : OkO x (.ag (us.map D.sc)) := by trivial) (hy : OkO y (.ag (vs.map D.sc)) := by trivial)
    (hT : (aggOf Γ.P T, Γ.P.eqGuardType Γ.P.depth T, eqT Γ.P 4 T us vs) = (some true, false, some r) := by kernel_rfl) :
    OpV Γ (.binOp b T x y U) { tn := tnO x (.ag (us.map D.sc)) ++ tnO y (.ag (vs.map D.sc)), out := some (.sc (.bool q)) } := by
  simp only [Prod.mk.injEq] at hT
  obtain ⟨h1, h2, h3⟩ := hT
  intro ops o hop hg
  exact v_steq hg hop hb rfl (hx.f (fun y hy => List.mem_append_left _ hy)) (hy.f (fun y hy => List.mem_append_right _ hy)) h1 h2 (by decide) h3
end
end Go.Im

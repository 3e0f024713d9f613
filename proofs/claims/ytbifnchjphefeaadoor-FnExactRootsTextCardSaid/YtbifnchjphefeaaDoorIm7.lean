import Derived.Test.YtbifnchjphefeaaDoorIm6
set_option linter.unusedVariables false
namespace Go.Im
open Go

section reps
variable {β : Nat → Loc} {N : Nat → Prop} {w : World} {top : Bool}

def D.free : D → Bool
  | .s o _ _ _ => !o
  | .ag _ => false
  | .tu _ => false
  | _ => true

theorem Rep.free {d : D} {v : Value} {bs : List Nat} (hf : d.free = true) (h : Rep β N w top d v bs) : bs = [] := by
  cases d with
  | s o z n xs =>
    simp only [D.free, Bool.not_eq_eq_eq_not, Bool.not_true] at hf
    subst hf
    simp only [Rep] at h
    obtain ⟨_, _, a, cap, _, _, h5⟩ := h
    rcases h5 with h5 | h5 | h5
    · exact h5.2.1
    · obtain ⟨_, b, off, ws, _, _, _, _, h6⟩ := h5; exact h6
    · exact absurd h5.1 (by simp)
  | ag cs => simp [D.free] at hf
  | tu cs => simp [D.free] at hf
  | _ => simp only [Rep] at h; first | exact h.2 | exact h.2.1 | exact h.1

theorem RepCs.length : ∀ {cs : List D} {ws : List Value} {bs : List Nat}, RepCs β N w top cs ws bs → ws.length = cs.length
  | [], ws, bs, h => by simp only [RepCs] at h; simp [h.1]
  | d :: ds, ws, bs, h => by
    simp only [RepCs] at h
    obtain ⟨v, vs, b1, b2, rfl, rfl, h3, h4⟩ := h
    simp [RepCs.length h4]

theorem RepCs.split : ∀ {cs : List D} {ws : List Value} {bs : List Nat} (k : Nat), RepCs β N w top cs ws bs →
    ∃ b1 b2, bs = b1 ++ b2 ∧ RepCs β N w top (cs.take k) (ws.take k) b1 ∧ RepCs β N w top (cs.drop k) (ws.drop k) b2
  | cs, ws, bs, 0, h => ⟨[], bs, rfl, by simp [RepCs], by simpa using h⟩
  | [], ws, bs, k + 1, h => by
    simp only [RepCs] at h
    obtain ⟨rfl, rfl⟩ := h
    exact ⟨[], [], rfl, by simp [RepCs], by simp [RepCs]⟩
  | d :: ds, ws, bs, k + 1, h => by
    simp only [RepCs] at h
    obtain ⟨v, vs, b1, b2, rfl, rfl, h3, h4⟩ := h
    obtain ⟨b3, b4, rfl, h5, h6⟩ := RepCs.split k h4
    refine ⟨b1 ++ b3, b4, by simp, ?_, by simpa using h6⟩
    simp only [List.take_succ_cons, RepCs]
    exact ⟨v, _, b1, b3, rfl, rfl, h3, h5⟩

theorem RepCs.append : ∀ {c1 c2 : List D} {w1 w2 : List Value} {b1 b2 : List Nat}, RepCs β N w top c1 w1 b1 → RepCs β N w top c2 w2 b2 → RepCs β N w top (c1 ++ c2) (w1 ++ w2) (b1 ++ b2)
  | [], c2, w1, w2, b1, b2, h1, h2 => by
    simp only [RepCs] at h1
    obtain ⟨rfl, rfl⟩ := h1
    simpa using h2
  | d :: ds, c2, w1, w2, b1, b2, h1, h2 => by
    simp only [RepCs] at h1
    obtain ⟨v, vs, b3, b4, rfl, rfl, h3, h4⟩ := h1
    simp only [List.cons_append, RepCs]
    exact ⟨v, _, b3, b4 ++ b2, rfl, by simp, h3, h4.append h2⟩

theorem RepCs.frees : ∀ {cs : List D} {ws : List Value} {bs : List Nat}, (∀ d ∈ cs, d.free = true) → RepCs β N w top cs ws bs → bs = []
  | [], ws, bs, _, h => by simp only [RepCs] at h; exact h.2
  | d :: ds, ws, bs, hf, h => by
    simp only [RepCs] at h
    obtain ⟨v, vs, b1, b2, rfl, rfl, h3, h4⟩ := h
    rw [Rep.free (hf d (by simp)) h3, RepCs.frees (fun d hd => hf d (by simp [hd])) h4]
    rfl

theorem Rep.up {d : D} {v : Value} {bs : List Nat} (h : Rep β N w false d v bs) : Rep β N w true d v bs := by
  cases d <;> simp only [Rep] at h ⊢ <;> first | exact h | exact absurd h.1 (by simp)

theorem RepCs.up : ∀ {cs : List D} {ws : List Value} {bs : List Nat}, RepCs β N w false cs ws bs → RepCs β N w true cs ws bs
  | [], ws, bs, h => h
  | d :: ds, ws, bs, h => by
    simp only [RepCs] at h ⊢
    obtain ⟨v, vs, b1, b2, h1, h2, h3, h4⟩ := h
    exact ⟨v, vs, b1, b2, h1, h2, h3.up, h4.up⟩

theorem Rep.oneCell {d : D} {v : Value} {bs : List Nat} (hf : match d with | .ag _ => False | .tu _ => False | .sc u => u.oneCell = true | _ => True) (h : Rep β N w top d v bs) : v.oneCell = true := by
  cases d with
  | sc u => simp only [Rep] at h; rw [h.1]; exact hf
  | s o z n xs => simp only [Rep] at h; obtain ⟨_, _, a, cap, rfl, _⟩ := h; rfl
  | rf => simp only [Rep] at h; obtain ⟨_, _, ⟨_, _, _, rfl⟩ | ⟨_, c, rfl, _⟩⟩ := h <;> rfl
  | pt => simp only [Rep] at h; rw [h.2.2.2]; rfl
  | ps => simp only [Rep] at h; obtain ⟨_, b, off, ws, rfl, _⟩ := h; rfl
  | fn => simp only [Rep] at h; obtain ⟨_, _, ws, rfl, _⟩ := h; rfl
  | ag => exact absurd hf id
  | tu => exact absurd hf id
  | un => simp only [Rep] at h; exact h.1
  | nb n => simp only [Rep] at h; obtain ⟨_, b, rfl, _⟩ := h; rfl
  | sub => simp only [Rep] at h; obtain ⟨_, _, a, c, rfl, _⟩ := h; rfl
  | fb => simp only [Rep] at h; obtain ⟨_, _, ws, rfl, _⟩ := h; rfl

end reps

def szOf (P : Program) (t : TypeId) : Option Nat := pureSem P (sizeOf t)
def aggOf (P : Program) (t : TypeId) : Option Bool := pureSem P (isAgg t)

/-- The value that a load gives of cells. -/
def ofCells (P : Program) (T : TypeId) (cs : List D) : Option D :=
  match aggOf P T, szOf P T with
  | some true, some n => if n ≤ cs.length ∧ (cs.take n).all D.free = true then some (.ag (cs.take n)) else none
  | some false, _ => match cs with
    | d :: _ => if d.free then some d else none
    | [] => none
  | _, _ => none

theorem run_loadVar {P : Program} {β : Nat → Loc} {N : Nat → Prop} {w : World} {T : TypeId} {cs : List D} {d : D} {b off : Nat} {ws : List Value} {bs : List Nat} (h : ofCells P T cs = some d)
    (hh : Has w b off ws) (ho : ∀ x ∈ ws, x.oneCell = true) (hr : RepCs β N w true cs ws bs) : ∃ v, (loadVar T ⟨b, off, none⟩).run P w = .ok v w ∧ Rep β N w true d v [] := by
  unfold ofCells at h
  unfold loadVar
  split at h
  · rename_i n h1 h2
    split at h
    · rename_i h3
      cases h
      rw [run_bind_ok (pureSem_run _ _ w h1)]
      simp only [if_true]
      rw [run_bind_ok (pureSem_run _ _ w h2)]
      obtain ⟨b1, b2, _, h4, _⟩ := hr.split n
      have hb1 : b1 = [] := RepCs.frees (by simpa using h3.2) h4
      subst hb1
      have hlen := hr.length
      rw [run_bind_ok (run_loadCells (ws := ws.take n) (by have := hh.sub 0 n; simpa using this) (by simp; omega))]
      refine ⟨_, rfl, ?_⟩
      simp only [Rep]
      exact ⟨trivial, ws.take n, rfl, fun x hx => ho x (List.mem_of_mem_take hx), h4⟩
    · cases h
  · rename_i _ h1
    split at h
    · rename_i d' ds
      split at h
      · rename_i hf
        cases h
        simp only [RepCs] at hr
        obtain ⟨v, vs, b1, b2, rfl, rfl, h3, h4⟩ := hr
        rw [run_bind_ok (pureSem_run _ _ w h1)]
        simp only [Bool.false_eq_true, if_false]
        have := hh.cell 0 (by simp)
        refine ⟨v, run_load (by simpa using this) _, ?_⟩
        have e := Rep.free hf h3
        subst e
        exact h3
      · cases h
    · cases h
  · cases h

def lk {α : Type} : List (Nat × α) → Nat → Option α
  | [], _ => none
  | (k, v) :: r, t => if k = t then some v else lk r t

theorem lk_mem {α : Type} : ∀ {l : List (Nat × α)} {t : Nat} {v : α}, lk l t = some v → (t, v) ∈ l
  | (k, u) :: r, t, v, h => by
    simp only [lk] at h
    split at h
    · rename_i e; cases h; subst e; simp
    · simp [lk_mem h]

/-- An operand's abstract value, and the facts that it takes. -/
def opd (tm : List (Nat × D)) : Operand → Option (D × List (Nat × D))
  | .tmp t => match lk tm t with
    | some d => some (d, [(t, d)])
    | none => none
  | .const v => some (.sc v, [])
  | .func f => some (.fn f [], [])
  | .global _ => none

theorem opd_spec {tm : List (Nat × D)} {x : Operand} {d : D} {ns : List (Nat × D)} (h : opd tm x = some (d, ns)) {c : Cert} (hs : ∀ y ∈ ns, y ∈ c.tn) : OpF c x d ∧ ∀ y ∈ ns, y ∈ tm := by
  cases x with
  | tmp t =>
    simp only [opd] at h
    split at h
    · rename_i d' hd; cases h; exact ⟨hs _ (by simp), by simpa using lk_mem hd⟩
    · cases h
  | const v => simp only [opd] at h; cases h; exact ⟨rfl, by simp⟩
  | func f => simp only [opd] at h; cases h; exact ⟨rfl, by simp⟩
  | global g => simp [opd] at h

/-- All operands scalars: the facts that they take. -/
def allSc (tm : List (Nat × D)) : List Operand → Option (List (Nat × D))
  | [] => some []
  | x :: xs => match opd tm x, allSc tm xs with
    | some (.sc _, ns), some ms => some (ns ++ ms)
    | _, _ => none

def rho (tm : List (Nat × D)) (x : Operand) : Value := match opd tm x with
  | some (.sc v, _) => v
  | _ => undef

def scD : Value → D
  | .agg arr => .ag (arr.toList.map .sc)
  | v => .sc v

def okSc : Value → Bool
  | .agg arr => arr.toList.all Value.oneCell
  | _ => true

theorem repCs_sc {β : Nat → Loc} {N : Nat → Prop} {w : World} {top : Bool} : ∀ (ws : List Value), RepCs β N w top (ws.map D.sc) ws []
  | [] => by simp [RepCs]
  | v :: vs => by
    simp only [List.map_cons, RepCs]
    exact ⟨v, vs, [], [], rfl, rfl, by simp [Rep], repCs_sc vs⟩

theorem scD_rep {β : Nat → Loc} {N : Nat → Prop} {w : World} {v : Value} (h : okSc v = true) : Rep β N w true (scD v) v [] := by
  cases v with
  | agg arr =>
    simp only [scD, Rep]
    exact ⟨trivial, arr.toList, by simp, fun x hx => by simp only [okSc] at h; exact List.all_eq_true.1 h x hx, repCs_sc _⟩
  | _ => simp [scD, Rep]

theorem rho_eval {Γ : Ctx} {β : Nat → Loc} {bs : List Nat} {σ : St} {a : Act} {w : World} (hr : RelB Γ β bs σ a w) {tm : List (Nat × D)} : ∀ {xs : List Operand} {ns : List (Nat × D)}, allSc tm xs = some ns →
    (∀ y ∈ ns, y ∈ σ.tm) → ∀ x ∈ xs, a.eval x = rho tm x
  | x :: xs, ns, h, hs, y, hy => by
    simp only [allSc] at h
    split at h
    · rename_i v n1 n2 h1 h2
      cases h
      rcases List.mem_cons.1 hy with rfl | hy
      · have e : rho tm y = v := by simp [rho, h1]
        rw [e]
        have hc := (opd_spec (c := { tn := n1 }) h1 (fun _ h => h)).1
        have := OpF.rep (Γ := Γ) (σ := σ) hc ⟨fun z hz => hs z (by simp; exact .inl hz), by simp, by simp⟩ hr
        simp only [Rep] at this
        exact this.1
      · exact rho_eval hr h2 (fun z hz => hs z (by simp [hz])) y hy
    · cases h

/-- Operations on scalars. -/
theorem valid_sc {Γ : Ctx} {ops : Array Oper} {o : Oper} {tm : List (Nat × D)} {ns : List (Nat × D)} {v u : Value} (hg : o.guard = none) (hsel : ∀ cs b, o.op ≠ .select cs b)
    (h1 : allSc tm o.op.operands.toList = some ns) (h2 : pureSem Γ.P (execOp (rho tm) o) = some (.value v)) (h3 : v = u) (h4 : okSc u = true) : Valid Γ ops o { tn := ns, out := some (scD u) } := by
  subst h3
  refine valid_value hg rfl rfl fun β bs σ a w hn hr => ⟨v, ?_, fun d hd => ?_⟩
  · rw [execOp_congr (ρ := a.eval) (ρ' := rho tm) o hsel fun x hx => rho_eval hr h1 hn.1 x (by simpa using hx)]
    exact pureSem_run _ _ w h2
  · cases hd
    exact scD_rep h4

end Go.Im

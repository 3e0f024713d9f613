import Derived.Test.YtbifnchjphefeaaDoorIm4
set_option linter.unusedVariables false
namespace Go.Im
open Go

theorem filt_true {α : Type} (l : List α) : l.filter (fun _ => true) = l := by simp

/-- An operand's fact. -/
def OpF (c : Cert) (x : Operand) (d : D) : Prop :=
  match x with
  | .tmp t => (t, d) ∈ c.tn
  | .const v => d = .sc v
  | .func f => d = .fn f []
  | .global _ => False

theorem OpF.rep {Γ : Ctx} {β : Nat → Loc} {bs : List Nat} {σ : St} {a : Act} {w : World} {c : Cert} {x : Operand} {d : D} (h : OpF c x d) (hn : Nd c σ) (hr : RelB Γ β bs σ a w) :
    Rep β (NS Γ w bs) w true d (a.eval x) [] := by
  cases x with
  | tmp t =>
    obtain ⟨v, h1, h2⟩ := hr.tm t d (hn.1 _ h)
    have : a.eval (.tmp t) = v := by simp [Act.eval, Array.getD_eq_getD_getElem?, h1]
    rw [this]; exact h2
  | const v => simp only [OpF] at h; subst h; simp [Rep, Act.eval]
  | func f =>
    simp only [OpF] at h; subst h
    simp only [Rep, Act.eval]
    exact ⟨trivial, trivial, [], rfl, rfl, rfl⟩
  | global g => exact absurd h id

theorem put_get {a : Act} {t : Nat} {v : Value} (h : t < a.tmps.size) : (a.put (some t) v).tmps[t]? = some v := by
  simp [Act.put, h]

theorem put_ne {a : Act} {dst : Option Nat} {t : Nat} {v : Value} (h : dst ≠ some t) : (a.put dst v).tmps[t]? = a.tmps[t]? := by
  cases dst with
  | none => rfl
  | some d => simp only [Act.put]; rw [Array.getElem?_setIfInBounds_ne]; intro e; exact h (by rw [e])

theorem put_size {a : Act} {dst : Option Nat} {v : Value} : (a.put dst v).tmps.size = a.tmps.size := by
  cases dst <;> simp [Act.put]

theorem put_def {a : Act} {dst : Option Nat} {v : Value} : (a.put dst v).defers = a.defers := by
  cases dst <;> rfl

/-- The facts behind a put. -/
theorem TRep.put {β : Nat → Loc} {N : Nat → Prop} {w : World} {a : Act} {σ : St} {dst : Option Nat} {c : Cert} {v : Value} (h : TRep β N w a.tmps σ.tm)
    (hd : ∀ t, dst = some t → t < a.tmps.size) (ho : ∀ d, c.out = some d → Rep β N w true d v []) : TRep β N w (a.put dst v).tmps (σ.upd dst c).tm := by
  intro t d hm
  simp only [St.upd, List.mem_append, List.mem_filter] at hm
  rcases hm with hm | ⟨hm, hne⟩
  · have e := mem_outs hm
    simp only at e
    subst e
    refine ⟨v, put_get (hd t rfl), ho d ?_⟩
    unfold Cert.outs at hm
    split at hm
    · simp at hm; obtain ⟨rfl, rfl⟩ := hm; assumption
    · simp at hm
  · obtain ⟨u, h1, h2⟩ := h t d hm
    refine ⟨u, ?_, h2⟩
    rw [put_ne]
    · exact h1
    · simpa using hne

/-- An operation that leaves memory alone. -/
theorem Rel.put {Γ : Ctx} {β : Nat → Loc} {bs : List Nat} {σ : St} {a : Act} {w : World} {dst : Option Nat} {c : Cert} {v : Value}
    (h0 : ∀ t, t ∈ menT σ.tm ∨ t ∈ menH σ.hp → t ∈ σ.us) (h : RelB Γ β bs σ a w) (hd : ∀ t, dst = some t → t < Γ.nt)
    (hx : c.hx = []) (hw : c.hw = []) (ho : ∀ d, c.out = some d → Rep β (NS Γ w bs) w true d v []) : Rel Γ (σ.upd dst c) (a.put dst v) w := by
  refine ⟨?_, β, bs, { defers := put_def.trans h.defers, size := put_size.trans h.size, keys := ?_, par := h.par, grow := h.grow, gh := h.gh, quiet := h.quiet, keep := h.keep, hp := ?_, nodup := h.nodup, own := h.own,
                       tm := TRep.put h.tm (by rw [h.size]; exact hd) ho }⟩
  · intro t ht
    simp only [St.upd, hx, hw, List.nil_append, List.contains_nil, Bool.not_false, filt_true] at ht
    simp only [St.upd, List.mem_append]
    rcases ht with ht | ht
    · simp only [menT, List.mem_flatMap, List.mem_append, List.mem_filter] at ht
      obtain ⟨x, hx1 | hx1, hx2⟩ := ht
      · refine .inl ?_
        unfold Cert.outs at hx1
        split at hx1
        · simp at hx1; subst hx1
          simp only [Cert.men, List.mem_append]
          refine .inl ?_
          rename_i h1; rw [h1]; exact hx2
        · simp at hx1
      · exact .inr (h0 t (.inl (List.mem_flatMap.2 ⟨x, hx1.1, hx2⟩)))
    · exact .inr (h0 t (.inr ht))
  · simp only [St.upd, hx, hw, List.nil_append, List.contains_nil, Bool.not_false, filt_true]
    exact h.keys
  · simp only [St.upd, hx, hw, List.nil_append, List.contains_nil, Bool.not_false, filt_true]
    exact h.hp

/-- An operation that gives a value and leaves memory alone: what is to be shown of it. -/
theorem valid_value {Γ : Ctx} {ops : Array Oper} {o : Oper} {c : Cert} (hg : o.guard = none) (hx : c.hx = []) (hw : c.hw = [])
    (h : ∀ (β : Nat → Loc) (bs : List Nat) (σ : St) (a : Act) (w : World), Nd c σ → RelB Γ β bs σ a w →
      ∃ v, (execOp a.eval o).run Γ.P w = .ok (.value v) w ∧ ∀ d, c.out = some d → Rep β (NS Γ w bs) w true d v []) : Valid Γ ops o c := by
  intro σ a w Q hd hn ⟨h0, β, bs, hr⟩
  have hwt : Region.wanted o (yielded ops a.tmps) = true := by simp [Region.wanted, hg]
  rw [if_pos hwt]
  obtain ⟨v, h1, h2⟩ := h β bs σ a w hn hr
  unfold Oper.wp
  rw [h1, Oper.upon_value]
  exact Rel.put h0 hr hd hx hw h2

/-- A guarded operation: what its guard says is known. -/
theorem valid_guard {Γ : Ctx} {ops : Array Oper} {o o' : Oper} {c : Cert} {g : Nat} {b : Bool} {t : Nat} (hg : o.guard = some (g, b)) (hgd : (ops[g]?).bind (·.dst) = some t)
    (ho : o' = { o with guard := none }) (hv : Valid Γ ops o' c) : Valid Γ ops o { c with tn := (t, .sc (.bool b)) :: c.tn } := by
  intro σ a w Q hd hn hr
  obtain ⟨h0, β, bs, hrb⟩ := hr
  obtain ⟨v, h1, h2⟩ := hrb.tm t _ (hn.1 (t, .sc (.bool b)) (by simp))
  simp only [Rep] at h2
  obtain ⟨rfl, _⟩ := h2
  have hwt : Region.wanted o (yielded ops a.tmps) = true := by simp [Region.wanted, hg, yielded, hgd, h1]
  rw [if_pos hwt]
  have hwt' : Region.wanted o' (yielded ops a.tmps) = true := by simp [Region.wanted, ho]
  have := hv σ a w Q (by rw [ho]; exact hd) ⟨fun x hx => hn.1 x (by simp [hx]), hn.2.1, hn.2.2⟩ ⟨h0, β, bs, hrb⟩
  rw [if_pos hwt'] at this
  have e1 : execOp a.eval o' = execOp a.eval o := by subst ho; rfl
  have e2 : o'.dst = o.dst := by subst ho; rfl
  unfold Oper.wp at this ⊢
  rw [e1] at this
  subst ho
  exact this

/-- An operation whose guard is not met. -/
theorem valid_skip {Γ : Ctx} {ops : Array Oper} {o : Oper} {g : Nat} {b : Bool} {t : Nat} (hg : o.guard = some (g, !b)) (hgd : (ops[g]?).bind (·.dst) = some t) :
    Valid Γ ops o { tn := [(t, .sc (.bool b))] } := by
  intro σ a w Q hd hn hr
  obtain ⟨h0, β, bs, hrb⟩ := hr
  obtain ⟨v, h1, h2⟩ := hrb.tm t _ (hn.1 (t, .sc (.bool b)) (by simp))
  simp only [Rep] at h2
  obtain ⟨rfl, _⟩ := h2
  have hwt : Region.wanted o (yielded ops a.tmps) = false := by simp [Region.wanted, hg, yielded, hgd, h1]
  rw [if_neg (by simp [hwt])]
  exact Rel.put h0 hrb hd rfl rfl (by simp)

end Go.Im

import Derived.Test.YtbifnchjphefeaaDoorIm3
set_option linter.unusedVariables false
namespace Go.Im
open Go

theorem HRep.perm {β : Nat → Loc} {N : Nat → Prop} {w : World} {hp hp' : List (Nat × Ent)} (h : hp.Perm hp') : ∀ {bs : List Nat}, HRep β N w hp bs → ∃ bs', bs.Perm bs' ∧ HRep β N w hp' bs' := by
  induction h with
  | nil => exact fun h => ⟨_, .refl _, h⟩
  | cons x _ ih =>
    rintro bs ⟨b1, b2, rfl, h2, h3⟩
    obtain ⟨b2', hp, h4⟩ := ih h3
    exact ⟨_, ((hp.append_left b1).append_left _), b1, b2', rfl, h2, h4⟩
  | swap x y l =>
    rintro bs ⟨b1, b2, rfl, h2, b3, b4, rfl, h3, h4⟩
    refine ⟨(β x.1).own ++ (b3 ++ ((β y.1).own ++ (b1 ++ b4))), ?_, b3, _, rfl, h3, b1, b4, rfl, h2, h4⟩
    simp only [← List.append_assoc]
    refine List.Perm.append_right _ ?_
    rw [List.append_assoc, List.append_assoc ((β x.1).own ++ b3)]
    exact List.perm_append_comm
  | trans _ _ ih1 ih2 =>
    intro bs h
    obtain ⟨bs1, p1, h1⟩ := ih1 h
    obtain ⟨bs2, p2, h2⟩ := ih2 h1
    exact ⟨bs2, p1.trans p2, h2⟩

theorem NS.perm {Γ : Ctx} {w : World} {bs bs' : List Nat} (h : bs.Perm bs') : NS Γ w bs = NS Γ w bs' := by
  funext b
  simp only [NS, h.mem_iff]

theorem Rel.eqv {Γ : Ctx} {σ σ' : St} {a : Act} {w : World} (e : Eqv σ σ') (h : Rel Γ σ a w) : Rel Γ σ' a w := by
  obtain ⟨h0, β, bs, h⟩ := h
  obtain ⟨bs', hp, h1⟩ := HRep.perm e.hp h.hp
  refine ⟨fun t ht => (e.us t).1 (h0 t ?_), β, bs', ?_⟩
  · rcases ht with ht | ht
    · exact .inl ((e.tm.flatMap_right _).mem_iff.2 ht)
    · exact .inr ((e.hp.flatMap_right _).mem_iff.2 ht)
  · exact { defers := h.defers, size := h.size, keys := (e.hp.map _).nodup_iff.1 h.keys, par := h.par, grow := h.grow, gh := h.gh, quiet := h.quiet, keep := h.keep, hp := NS.perm hp ▸ h1, nodup := hp.nodup_iff.1 h.nodup,
            own := fun b hb => h.own b (hp.mem_iff.2 hb), tm := fun t d hd => by rw [← NS.perm hp]; exact h.tm t d (e.tm.mem_iff.2 hd) }

def Valid (Γ : Ctx) (ops : Array Oper) (o : Oper) (c : Cert) : Prop :=
  ∀ (σ : St) (a : Act) (w : World) (Q : Exit → Act → World → Prop), (∀ t, o.dst = some t → t < Γ.nt) → Nd c σ → Rel Γ σ a w →
    if Region.wanted o (yielded ops a.tmps) then o.wp Γ.P a w (Rel Γ (σ.upd o.dst c)) Q else Rel Γ (σ.upd o.dst c) (a.put o.dst undef) w

theorem Valid.wpOp {Γ : Ctx} {ops : Array Oper} {c : Cert} {i : Nat} {σ : St} {a : Act} {w : World} {Q : Exit → Act → World → Prop} {K : Act → World → Prop} (hi : i < ops.size)
    (hv : ∀ o, ops[i]? = some o → Valid Γ ops o c ∧ ∀ t, o.dst = some t → t < Γ.nt) (hn : Nd c σ) (hr : Rel Γ σ a w) (hK : ∀ a w, Rel Γ (σ.upd ((ops[i]?).bind (·.dst)) c) a w → K a w) : Go.wpOp Γ.P ops Q i K a w := by
  unfold Go.wpOp
  have hget : ops[i]? = some ops[i] := Array.getElem?_eq_getElem hi
  rw [hget] at hK ⊢
  simp only [Option.bind_some] at hK ⊢
  have := (hv _ hget).1 σ a w Q (hv _ hget).2 hn hr
  split
  · rename_i hw
    rw [if_pos hw] at this
    exact .inl (Oper.wp_mono hK this)
  · rename_i hw
    rw [if_neg hw] at this
    exact hK _ _ this

theorem ready_lt {ops : Array Oper} {md : Region.Mode} {listed : Array Bool} {i : Nat} (h : i ∈ Region.ready md ops listed) : i < ops.size := by
  unfold Region.ready at h
  exact List.mem_range.1 (List.mem_filter.1 h).1

theorem wpAny_of {Γ : Ctx} {ops : Array Oper} {cs : Nat → Cert} {F : St → Prop} {Q : Exit → Act → World → Prop} (hv : ∀ i o, ops[i]? = some o → Valid Γ ops o (cs i) ∧ ∀ t, o.dst = some t → t < Γ.nt)
    (hF : ∀ σ a w, F σ → Rel Γ σ a w → Q .normal a w) : ∀ (k : Nat) (listed : Array Bool) (σ : St) (a : Act) (w : World), AnyA ops cs F k listed σ → Rel Γ σ a w →
    wpAny Γ.P .any ops Q k listed a w
  | 0, _, σ, a, w, h, hr => ⟨h.1, hF _ _ _ h.2 hr⟩
  | k + 1, _, σ, a, w, h, hr => ⟨fun h0 => hF _ _ _ (h.1 h0) hr, fun i hi =>
      Valid.wpOp (ready_lt hi) (hv i) (h.2 i hi).1 hr (fun a' w' hr' => wpAny_of hv hF k _ _ a' w' (h.2 i hi).2 hr')⟩

theorem wpOps_of {Γ : Ctx} {ops : Array Oper} {cs : Nat → Cert} {F : St → Prop} {Q : Exit → Act → World → Prop} (hv : ∀ i o, ops[i]? = some o → Valid Γ ops o (cs i) ∧ ∀ t, o.dst = some t → t < Γ.nt)
    (hF : ∀ σ a w, F σ → Rel Γ σ a w → Q .normal a w) : ∀ (n k : Nat) (σ : St) (a : Act) (w : World), k + n = ops.size → LexRun ops cs F n k σ → Rel Γ σ a w →
    wpOps Γ.P ops Q (List.range' k n) a w
  | 0, k, σ, a, w, _, h, hr => by simpa [wpOps] using hF _ _ _ h hr
  | n + 1, k, σ, a, w, hk, h, hr => by
    rw [List.range'_succ, wpOps_cons]
    exact Valid.wpOp (by omega) (hv k) h.1 hr (fun a' w' hr' => wpOps_of hv hF n (k + 1) _ a' w' (by omega) h.2 hr')

theorem Rel.drew {Γ : Ctx} {σ : St} {a : Act} {w : World} (h : Rel Γ σ a w) (n : Nat) : Rel Γ σ a { w with drawn := n } := by
  obtain ⟨h0, β, bs, h⟩ := h
  refine ⟨h0, β, bs, { defers := h.defers, size := h.size, keys := h.keys, par := h.par, grow := h.grow, gh := h.gh, quiet := h.quiet, keep := h.keep, hp := ?_, nodup := h.nodup, own := h.own, tm := ?_ }⟩
  · exact HRep.frame (β' := β) (w := w) (N := NS Γ w bs) (w' := { w with drawn := n }) (N' := NS Γ { w with drawn := n } bs) (fun b hb => ⟨hb, rfl⟩) _ _ (fun _ _ => rfl) (fun _ _ => rfl) h.hp
  · exact TRep.frame (β' := β) (w := w) (N := NS Γ w bs) (w' := { w with drawn := n }) (N' := NS Γ { w with drawn := n } bs) (fun b hb => ⟨hb, rfl⟩) (fun _ _ => rfl) h.tm

theorem Eqv.respects (σ0 : St) : ∀ σ σ', Eqv σ σ' → Eqv σ σ0 → Eqv σ' σ0 := fun _ _ h h' => h.symm.trans h'

/-- A region, from one state to another. -/
theorem region {Γ : Ctx} {id : Nat} {ops : Array Oper} {draw : Bool} {cs : Nat → Cert} {σ σ' : St} {a : Act} {w : World} (hm : Γ.P.follows .mixedOrders = true)
    (hv : ∀ i o, ops[i]? = some o → Valid Γ ops o (cs i) ∧ ∀ t, o.dst = some t → t < Γ.nt) (hd : draw = true → lexA ops cs ops.size 0 (Array.replicate ops.size false) = true)
    (hrun : LexRun ops cs (fun s => Eqv s σ') ops.size 0 σ) (hr : Rel Γ σ a w) :
    (Code.region id ops draw).wp Γ.P (fun e a' w' => e = .normal ∧ Rel Γ σ' a' w') a w := by
  cases draw with
  | true =>
    refine wp_region_any hm (wpAny_of hv (F := fun s => Eqv s σ') (fun s a w e h => ⟨rfl, h.eqv e⟩) _ _ σ a _ ?_ (hr.drew _))
    exact AnyA.lex (fun _ _ e h => e.symm.trans h) _ _ _ _ (hd rfl) hrun
  | false =>
    refine wp_region ?_
    rw [List.range_eq_range']
    exact wpOps_of hv (F := fun s => Eqv s σ') (fun s a w e h => ⟨rfl, h.eqv e⟩) _ _ σ a w (by omega) hrun hr

end Go.Im

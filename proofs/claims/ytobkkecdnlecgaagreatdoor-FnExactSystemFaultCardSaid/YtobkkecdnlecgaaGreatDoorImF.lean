import Derived.Test.YtobkkecdnlecgaaGreatDoorImE
import Derived.Lib.SplitLaws
set_option linter.unusedVariables false
namespace Go.Im
open Go

/-! ### Arrays: a variable that holds an array is a row -/
def D.isSc : D → Bool
  | .sc _ => true
  | _ => false

section
variable {β : Nat → Loc} {N : Nat → Prop} {w : World}
theorem repCs_down : ∀ {cs : List D} {ws : List Value} {bs : List Nat}, cs.all D.isSc = true → RepCs β N w true cs ws bs → RepCs β N w false cs ws bs ∧ bs = []
  | [], ws, bs, _, h => by simp only [RepCs] at h ⊢; exact ⟨h, h.2⟩
  | d :: cs, ws, bs, hc, h => by
    simp only [List.all_cons, Bool.and_eq_true] at hc
    simp only [RepCs] at h ⊢
    obtain ⟨v, vs, b1, b2, rfl, rfl, h3, h4⟩ := h
    obtain ⟨h5, rfl⟩ := repCs_down hc.2 h4
    cases d with
    | sc u =>
      simp only [Rep] at h3 ⊢
      obtain ⟨rfl, rfl⟩ := h3
      exact ⟨⟨_, vs, [], [], rfl, rfl, ⟨rfl, rfl⟩, h5⟩, rfl⟩
    | _ => simp [D.isSc] at hc

theorem repEs_of : ∀ {xs : List (List D)} {ws : List Value} {bs : List Nat}, (∀ x ∈ xs, x.all D.isSc = true) → RepCs β N w true xs.flatten ws bs → RepEs β N w xs ws [] ∧ bs = []
  | [], ws, bs, _, h => by simp only [List.flatten_nil, RepCs] at h; simp only [RepEs]; exact ⟨⟨h.1, trivial⟩, h.2⟩
  | x :: xs, ws, bs, hx, h => by
    rw [List.flatten_cons] at h
    obtain ⟨b1, b2, rfl, h1, h2⟩ := RepCs.split x.length h
    rw [List.take_left] at h1
    rw [List.drop_left] at h2
    obtain ⟨h3, rfl⟩ := repCs_down (hx x (by simp)) h1
    obtain ⟨h4, rfl⟩ := repEs_of (fun y hy => hx y (by simp [hy])) h2
    simp only [RepEs]
    exact ⟨⟨ws.take x.length, ws.drop x.length, [], [], (List.take_append_drop _ _).symm, rfl, h3, h4⟩, rfl⟩
end

def tmOk (t : Nat) : D → Bool
  | .pt _ 0 _ => true
  | d => !(d.men.contains t)

section
variable {Γ : Ctx} {fc : Code} {k : List II} {σ : St} {T : Type} {K : T → Option (D × List Ent)}

theorem tmOk_rep {β : Nat → Loc} {N : Nat → Prop} {w : World} {t z : Nat} {d : D} {v : Value} (ho : tmOk t d = true) (h : Rep β N w true d v []) : Rep (updB β t { (β t) with z := z }) N w true d v [] := by
  have key : t ∉ d.men → Rep (updB β t { (β t) with z := z }) N w true d v [] := fun hm =>
    Rep.frame (fun b hb => ⟨hb, rfl⟩) d true v [] (by simp) (fun k hk => updB_ne (fun e => hm (e ▸ hk))) h
  unfold tmOk at ho
  split at ho
  · rename_i t' j
    simp only [Rep] at h ⊢
    by_cases e : t' = t
    · subst e
      rw [updB_self]
      simpa using h
    · rw [updB_ne e]; exact h
  · exact key (by simpa using ho)

theorem J_boxrow {e : Option T} (t : Nat) {z : Nat} {cs : List D} {xs : List (List D)} {tm : List (Nat × D)} {hp : List (Nat × Ent)} (hxs : xs.flatten = cs) (hz : xs.all (fun x => x.length == z && x.all D.isSc) = true) (htm : tm.all (fun x => tmOk t x.2) = true)
    (hhp : (menH hp).contains t = false) (hm : Nat.ble Γ.m t = true) (hj : J Γ fc k (St.mk' tm ((t, .row z xs) :: hp)) e K) : J Γ fc k (St.mk' tm ((t, .box cs) :: hp)) e K := by
  subst hxs
  refine J_weak (fun a w hr => ?_) hj
  obtain ⟨h0, β, bs, h⟩ := hr
  obtain ⟨b1, b2, rfl, ⟨hnil, _, ws, hO, _, hcr⟩, hrest⟩ := h.hp
  have hall : ∀ x ∈ xs, x.length = z ∧ x.all D.isSc = true := fun x hx => by
    have := List.all_eq_true.1 hz x hx
    simpa using this
  obtain ⟨hE, rfl⟩ := repEs_of (fun x hx => (hall x hx).2) hcr
  have htn : t ∉ menH hp := by simpa using hhp
  have hown : (updB β t { (β t) with z := z } t).own = (β t).own := by rw [updB_self]; rfl
  refine ⟨?_, updB β t { (β t) with z := z }, (β t).own ++ ([] ++ b2), { defers := h.defers, size := h.size, keys := h.keys, par := fun k hk => ?_, grow := h.grow, gh := h.gh, quiet := h.quiet, keep := h.keep, hp := ?_, nodup := h.nodup, own := h.own, tm := ?_ }⟩
  · intro q hq
    simp only [St.mk', List.mem_append]
    exact hq
  · have := Nat.le_of_ble_eq_true hm
    rw [updB_ne (by omega)]
    exact h.par k hk
  · refine ⟨[], b2, by rw [hown], ⟨by rw [updB_self], fun x hx => (hall x hx).1, .inr ⟨by rw [updB_self]; exact hnil, ws, ?_, ?_⟩⟩, ?_⟩
    · rw [updB_self]; exact hO
    · exact RepEs.frame (fun b hb => ⟨hb, rfl⟩) xs ws [] (by simp) hE
    · refine HRep.frame (fun b hb => ⟨hb, rfl⟩) _ _ (fun _ _ => rfl) (fun q hq => updB_ne (fun e => htn (e ▸ hq))) hrest
  · intro q d hd
    obtain ⟨v, h1, h2⟩ := h.tm q d hd
    exact ⟨v, h1, tmOk_rep (List.all_eq_true.1 htm _ hd) h2⟩
end

section
variable {Γ : Ctx} {ops : Array Oper} {o : Oper}
theorem v_index_arr {c : Cert} {x y : Operand} {T el : TypeId} {k : IntKind} {z n t j : Nat} {i : Int} {xs : List (List D)} (hg : o.guard = none) (hop : o.op = .indexAddr T x y)
    (hc : c = { tn := c.tn, hn := c.hn, out := some (.pt t j 0) }) (hx : OpF c x (.pt t 0 0)) (hy : OpF c y (.sc (.int k i))) (hT : pureSem Γ.P (underlying T) = some (.array n el)) (hz : szOf Γ.P el = some z)
    (hi : 0 ≤ i) (hj : i < n) (hjj : i.toNat = j) (hh : (t, .row z xs) ∈ c.hn) : Valid Γ ops o c := by
  refine valid_val (d := .pt t j 0) (f := fun ρ => Instr.indexAt T (ρ x) (ρ y)) hg (fun ρ => by simp [execOp, hop]) (by rw [hc]) fun β bs σ a w hn hr => ?_
  have h1 := OpF.rep hx hn hr
  have h2 := OpF.rep hy hn hr
  obtain ⟨_, ⟨hLz, _⟩, _⟩ := HRep.get hr.hp (hn.2.1 _ hh)
  simp only [Rep] at h1 h2
  obtain ⟨_, _, hnil, hv⟩ := h1
  refine ⟨.pointer (some ⟨(β t).b, (β t).o + j * (β t).z + 0, none⟩), ?_, by simp only [Rep]; exact ⟨trivial, trivial, hnil, trivial⟩⟩
  rw [h2.1, hv]
  unfold Instr.indexAt
  rw [run_bind_ok (a := (k, i)) (w' := w) rfl]
  simp only
  rw [run_bind_ok (pureSem_run _ _ w hT)]
  simp only
  rw [run_bind_ok (a := (⟨(β t).b, (β t).o + 0 * (β t).z + 0, none⟩ : Addr)) (w' := w) rfl]
  rw [run_bind_ok (a := (some (⟨(β t).b, (β t).o + 0 * (β t).z + 0, none⟩ : Addr), n, el)) (w' := w) rfl]
  rw [run_bind_ok (pureSem_run _ _ w hT)]
  simp only
  rw [if_pos ⟨hi, hj⟩]
  rw [run_bind_ok (pureSem_run _ _ w hz)]
  rw [add_none, hLz, ← hjj]
  simp

def idxa {α : Type} (xs : List α) (n : Nat) (i : Int) : Option α := if xs.length = n then idx xs i else none
theorem idxa_idx {α : Type} {xs : List α} {n : Nat} {i : Int} {a : α} (h : idxa xs n i = some a) : idx xs i = some a := by
  unfold idxa at h
  split at h
  · exact h
  · cases h

theorem x_ixa {α : Type} {xs : List α} {i : Int} {a : α} {kk : IntKind} (T el z t : Nat) (enc : α → List D) (x y : Operand) (n : Nat) (h : idxa xs n i = some a) (hx : OkO x (.pt t 0 0) := by trivial) (hy : OkO y (.sc (.int kk i)) := by first | trivial | rfl)
    (hT : (pureSem Γ.P (underlying T), szOf Γ.P el) = (some (.array n el), some z) := by kernel_rfl) :
    OpV Γ (.indexAddr T x y) { tn := tnO x (.pt t 0 0) ++ tnO y (.sc (.int kk i)), hn := [(t, rE z enc xs)], out := some (.pt t i.toNat 0) } := by
  simp only [Prod.mk.injEq] at hT
  unfold idxa at h
  split at h
  · rename_i hl
    obtain ⟨h1, h2⟩ := idx_some h
    have := (List.getElem?_eq_some_iff.1 h2).1
    intro ops o hop hg
    exact v_index_arr hg hop rfl (hx.f (fun y hy => List.mem_append_left _ hy)) (hy.f (fun y hy => List.mem_append_right _ hy)) hT.1 hT.2 h1 (by omega) rfl (.head _)
  · cases h

theorem x_build0 (T : TypeId) (vs : List Value) (hz : pureSem Γ.P (Instr.build T #[]) = some (.agg vs.toArray) := by kernel_rfl) (h1 : vs.all Value.oneCell = true := by kernel_rfl) : OpV Γ (.build T #[]) { out := some (.ag (vs.map D.sc)) } := by
  intro ops o hop hg
  refine valid_val (d := .ag (vs.map D.sc)) (f := fun ρ => Instr.build T #[]) hg (fun ρ => by simp [execOp, hop]) rfl fun β bs σ a w hn hr => ?_
  refine ⟨_, pureSem_run _ _ w hz, ?_⟩
  simp only [Rep]
  exact ⟨trivial, vs, rfl, fun x hx => List.all_eq_true.1 h1 x hx, repCs_sc vs⟩
end
end Go.Im

set_option linter.unusedVariables false
namespace Go.Im
open Go

/-! ### A part of a stable box -/
section
variable {Γ : Ctx} {ops : Array Oper} {o : Oper}

theorem v_faddr_pb {c : Cert} {x : Operand} {s : TypeId} {f off n : Nat} {cs ds : List D} (hg : o.guard = none) (hop : o.op = .fieldAddr s x f) (hc : c = { tn := c.tn, out := some (.pb ds) }) (hx : OpF c x (.pb cs))
    (hf : fldOff Γ.P s f = some off) (hd : (cs.drop off).take n = ds) : Valid Γ ops o c := by
  rw [hc]
  subst hd
  refine valid_value hg rfl rfl fun β bs σ a w hn hr => ?_
  have h1 := OpF.rep (c := c) hx ⟨hn.1, by rw [hc]; simp, by rw [hc]; simp⟩ hr
  simp only [Rep] at h1
  obtain ⟨_, _, b, p, ws, h2, h3, h4, hone, h5⟩ := h1
  refine ⟨_, exec_v (s := Instr.fieldAt s (a.eval x) f) (by simp [execOp, hop]) (by rw [h2]; exact run_fieldAt hf), fun d' hd => ?_⟩
  cases hd
  simp only [Rep]
  obtain ⟨b1, b2, h6, h7, h8⟩ := h5.split off
  have e : b2 = [] := (List.append_eq_nil_iff.1 h6.symm).2
  subst e
  obtain ⟨b3, b4, h9, h10, h11⟩ := h8.split n
  have e : b3 = [] := (List.append_eq_nil_iff.1 h9.symm).1
  subst e
  refine ⟨trivial, trivial, b, p + off, (ws.drop off).take n, rfl, h3, ?_, fun x hx => hone x (List.mem_of_mem_drop (List.mem_of_mem_take hx)), h10⟩
  obtain ⟨arr, e, fz, q1, q2⟩ := h4.drop off
  exact ⟨arr, e, fz, q1, fun k hk => by rw [List.length_take] at hk; rw [List.getElem_take]; exact q2 k (by omega)⟩

theorem v_nil_pb {c : Cert} {x : Operand} {cs : List D} (hg : o.guard = none) (hop : o.op = .nilCheck x) (hc : c = { tn := c.tn, out := some (.pb cs) }) (hx : OpF c x (.pb cs)) : Valid Γ ops o c := by
  rw [hc]
  refine valid_value hg rfl rfl fun β bs σ a w hn hr => ?_
  have h1 := OpF.rep (c := c) hx ⟨hn.1, by rw [hc]; simp, by rw [hc]; simp⟩ hr
  refine ⟨a.eval x, ?_, fun d hd => by cases hd; exact h1⟩
  simp only [Rep] at h1
  obtain ⟨_, _, b, p, ws, h2, _⟩ := h1
  simp only [execOp, hop]
  rw [h2]
  rfl

theorem x_fapb {ds : List D} (s : Nat) (x : Operand) (f off n : Nat) (cs : List D) (hx : OkO x (.pb cs) := by trivial) (hf : fldOff Γ.P s f = some off := by kernel_rfl) (hd : (cs.drop off).take n = ds := by rfl) : OpV Γ (.fieldAddr s x f) { tn := tnO x (.pb cs), out := some (.pb ds) } := by
  intro ops o hop hg
  exact v_faddr_pb hg hop rfl (hx.f (fun y hy => hy)) hf hd

theorem x_nilpb (x : Operand) (cs : List D) (hx : OkO x (.pb cs) := by trivial) : OpV Γ (.nilCheck x) { tn := tnO x (.pb cs), out := some (.pb cs) } := by
  intro ops o hop hg
  exact v_nil_pb hg hop rfl (hx.f (fun y hy => hy))
end
end Go.Im

import Derived.Test.YtbifnchjphefeaaDoorIm17
set_option linter.unusedVariables false
namespace Go.Im
open Go

variable {Γ : Ctx} {ops : Array Oper} {o : Oper}

theorem repCs_args {β : Nat → Loc} {N : Nat → Prop} {w : World} {a : Act} {c : Cert} : ∀ {as : List D} {xs : List Operand}, as.length = xs.length →
    (∀ (k : Nat) (d : D), as[k]? = some d → ∃ x, xs[k]? = some x ∧ Rep β N w true d (a.eval x) []) → RepCs β N w true as (xs.map a.eval) []
  | [], [], _, _ => by simp [RepCs]
  | d :: as, x :: xs, hl, h => by
    obtain ⟨x', h1, h2⟩ := h 0 d rfl
    simp at h1
    subst h1
    simp only [List.map_cons, RepCs]
    exact ⟨_, _, [], [], rfl, rfl, h2, repCs_args (c := c) (by simpa using hl) (fun k d hd => h (k + 1) d (by simpa using hd))⟩

theorem enumE_get {hs : List Ent} {x : Nat × Ent} : x ∈ enumE hs ↔ hs[x.1]? = some x.2 := by
  unfold enumE
  rw [List.mem_map]
  constructor
  · rintro ⟨⟨e, i⟩, h1, rfl⟩
    exact List.mem_zipIdx_iff_getElem?.1 h1
  · intro h
    exact ⟨(x.2, x.1), List.mem_zipIdx_iff_getElem?.2 h, rfl⟩

/-- Entries under other names. -/
theorem HRep.rename {β β' : Nat → Loc} {N : Nat → Prop} {w : World} : ∀ {hs : List Ent} {ids : List Nat} {k : Nat} {bs : List Nat}, hs.length = ids.length → (∀ e ∈ hs, e.men = []) → (∀ i t, ids[i]? = some t → β' (k + i) = β t) →
    HRep β N w (ids.zip hs) bs → HRep β' N w ((hs.zipIdx k).map (fun x => (x.2, x.1))) bs
  | [], [], k, bs, _, _, _, h => by simpa [HRep] using h
  | e :: hs, t :: ids, k, bs, hl, hm, hβ, h => by
    simp only [List.zip_cons_cons] at h
    obtain ⟨b1, b2, rfl, h2, h3⟩ := h
    simp only [List.zipIdx_cons, List.map_cons]
    have e0 : β' k = β t := by simpa using hβ 0 t rfl
    refine ⟨b1, b2, by simp only [e0], ?_, HRep.rename (by simpa using hl) (fun e he => hm e (by simp [he])) (fun i t hi => ?_) h3⟩
    · simp only [e0]
      exact h2.frame (fun b hb => ⟨hb, rfl⟩) (fun _ _ => rfl) (fun _ => rfl) (fun t' ht' => by rw [hm e (by simp)] at ht'; simp at ht')
    · rw [show k + 1 + i = k + (i + 1) by omega]
      exact hβ (i + 1) t (by simpa using hi)

theorem HRep.rename' {β β' : Nat → Loc} {N : Nat → Prop} {w : World} : ∀ {hs : List Ent} {ids : List Nat} {k : Nat} {bs : List Nat}, hs.length ≤ ids.length → (∀ e ∈ hs, e.men = []) → (∀ i t, ids[i]? = some t → β' (k + i) = β t) →
    HRep β' N w ((hs.zipIdx k).map (fun x => (x.2, x.1))) bs → HRep β N w (ids.zip hs) bs
  | [], ids, k, bs, _, _, _, h => by simpa [HRep] using h
  | e :: hs, t :: ids, k, bs, hl, hm, hβ, h => by
    simp only [List.zipIdx_cons, List.map_cons] at h
    obtain ⟨b1, b2, rfl, h2, h3⟩ := h
    simp only [List.zip_cons_cons]
    have e0 : β' k = β t := by simpa using hβ 0 t rfl
    refine ⟨b1, b2, by simp only [e0], ?_, HRep.rename' (k := k + 1) (by simpa using hl) (fun e he => hm e (by simp [he])) (fun i t hi => ?_) h3⟩
    · simp only [e0] at h2
      exact h2.frame (fun b hb => ⟨hb, rfl⟩) (fun _ _ => rfl) (fun _ => rfl) (fun t' ht' => by rw [hm e (by simp)] at ht'; simp at ht')
    · rw [show k + 1 + i = k + (i + 1) by omega]
      exact hβ (i + 1) t (by simpa using hi)

theorem zip_sub : ∀ (ids : List Nat) (hs : List Ent), ((ids.zip hs).map (·.1)).Sublist ids
  | [], hs => by simp
  | t :: ids, [] => by simp
  | t :: ids, e :: hs => by
    simp only [List.zip_cons_cons, List.map_cons]
    exact (zip_sub ids hs).cons_cons t

/-- What a call does to the state. -/
theorem call_core {β : Nat → Loc} {bs : List Nat} {σ : St} {a : Act} {w : World} {dst : Option Nat} {c : Cert} {f : FuncId} {as ds : List D} {vs : List Value} {ids : List Nat} {bor : Bool} {hin hout : List Ent} {R : Option (D × List Ent)} {res d : D}
    {news : List (Nat × Ent)} (h0 : ∀ t, t ∈ menT σ.tm ∨ t ∈ menH σ.hp → t ∈ σ.us) (h : RelB Γ β bs σ a w) (hd : ∀ t, dst = some t → t < Γ.nt) (hn : Nd c σ)
    (hvs : RepCs β (NS Γ w bs) w true as vs []) (ham : AmL c.hn ids bor as ds) (hids : ids.Nodup) (hinl : hin.length = ids.length) (hhin : ∀ x ∈ ids.zip hin, x ∈ c.hn) (hmen : ∀ e ∈ hin ++ hout, e.men = [])
    (hok : Ok Γ.P f ds hin R) (hR : R = some (res, hout)) (hol : hout.length ≤ hin.length) (hnm : Nm res d news) (hnews : (news.map (·.1)).Nodup)
    (hc : c = { tn := c.tn, hn := c.hn, out := some d, hx := ids, hw := ids.zip hout ++ news, fr := news.map (·.1) }) (hmm : ∀ x ∈ news, Γ.m ≤ x.1)
    (hbor : bor = true → ids = [] ∧ res.flat) : Calls Γ.P f vs.toArray w (fun e w' => ∃ v, e = .returned v ∧ Rel Γ (σ.upd dst c) (a.put dst v) w') := by
  have hfrs : ∀ x ∈ news, x.1 ∉ σ.us := fun x hx => hn.2.2 x.1 (by rw [hc]; exact List.mem_map.2 ⟨x, hx, rfl⟩)
  have hkz : ((ids.zip hin).map (·.1)) = ids := by rw [List.map_fst_zip (by omega)]
  obtain ⟨bIn, bk, p, hIn, hKp⟩ := HRep.takes (hs := ids.zip hin) h.hp h.keys (by rw [hkz]; exact hids) (fun x hx => hn.2.1 x (hhin x hx))
  rw [hkz] at hKp
  have hnd := p.nodup_iff.1 h.nodup
  have hlt : ∀ b ∈ bs, b < w.heap.size := fun b hb => (h.own b hb).1
  have hInb : ∀ b ∈ bIn, b ∈ bs := fun b hb => p.mem_iff.2 (by simp [hb])
  have hbkb : ∀ b ∈ bk, b ∈ bs := fun b hb => p.mem_iff.2 (by simp [hb])
  have hdis : ∀ b ∈ bk, b ∉ bIn := fun b hb hb' => (List.nodup_append.1 hnd).2.2 b hb' b hb rfl
  let N0 : Nat → Prop := fun b => NS Γ w bs b ∨ (bor = true ∧ b ∈ bk)
  let β' : Nat → Loc := fun k => match ids[k]? with | some t => β t | none => β k
  have hβ' : ∀ k t, ids[k]? = some t → β' k = β t := fun k t hk => by simp only [β', hk]
  have hNsub : ∀ b, NS Γ w bs b → N0 b := fun b hb => .inl hb
  have hargs := AmL.rep (β' := β') (N0 := N0) (hn := c.hn) hKp (fun x hx hxi => List.mem_filter.2 ⟨hn.2.1 x hx, by simpa using hxi⟩) hNsub hβ' (fun e b hb => .inr ⟨e, hb⟩) ham hvs
  have hin' : HRep β' N0 w (enumE hin) bIn := by
    have q := HRep.rename (k := 0) (β' := β') hinl (fun e he => hmen e (by simp [he])) (fun i t hi => by rw [Nat.zero_add]; exact hβ' i t hi) hIn
    exact HRep.frame (fun b hb => ⟨hNsub b hb, rfl⟩) _ _ (fun _ _ => rfl) (fun _ _ => rfl) q
  have hcall := hok _ hR w N0 β' vs bIn hargs hin' (List.nodup_append.1 hnd).1 (fun b hb => hlt b (hInb b hb)) (fun b hb => by
    rcases hb with hb | ⟨_, hb⟩
    · exact ⟨hb.2.1, fun h' => hb.2.2 (hInb b h')⟩
    · exact ⟨hlt b (hbkb b hb), hdis b hb⟩) (fun q hq => ⟨.inl (h.tables q hq).1, (h.tables q hq).2⟩)
  refine hcall.mono fun e w' hpost => ?_
  obtain ⟨v, b1, b2, rfl, hqt, hsz, hkeep, hnd', hown', hres, hho⟩ := hpost
  refine ⟨v, rfl, ?_⟩
  simp only at hsz hkeep hown' hres hho
  have hNN : ∀ b, bor = false → NS ⟨Γ.P, f, w, N0, bIn, hin.length, β', 0⟩ w' (b1 ++ b2) b → NS Γ w' ((b2 ++ b1) ++ bk) b := by
    rintro b hb ⟨q1, q2, q3⟩
    have q4 : b ∉ b2 ++ b1 := fun h' => q3 (by simp only [List.mem_append] at h' ⊢; exact h'.symm)
    have hcond : (Γ.N0 b ∨ b ∈ Γ.O0 ∨ Γ.w0.heap.size ≤ b) ∧ b ∉ bk := by
      rcases q1 with (q1 | ⟨q1, _⟩) | q1 | q1
      · exact ⟨q1.1, fun h' => q1.2.2 (hbkb b h')⟩
      · rw [hb] at q1; cases q1
      · exact ⟨.inr (h.own b (hInb b q1)).2, fun h' => hdis b h' q1⟩
      · exact ⟨.inr (.inr (Nat.le_trans h.grow q1)), fun h' => by have := hlt b (hbkb b h'); simp only at q1; omega⟩
    refine ⟨hcond.1, q2, ?_⟩
    intro h'
    rcases List.mem_append.1 h' with h' | h'
    · exact q4 h'
    · exact hcond.2 h'
  have hres' : Rep β' (NS Γ w' ((b2 ++ b1) ++ bk)) w' true res v b1 := by
    cases hbb : bor with
    | false => exact Rep.frame (fun b hb => ⟨hNN b hbb hb, rfl⟩) res true v b1 (fun _ _ => rfl) (fun _ _ => rfl) hres
    | true => exact Rep.flat res true v b1 (hbor hbb).2 (fun _ _ => rfl) hres
  have hho' : HRep β' (NS Γ w' ((b2 ++ b1) ++ bk)) w' (enumE hout) b2 := by
    cases hbb : bor with
    | false => exact HRep.frame (fun b hb => ⟨hNN b hbb hb, rfl⟩) _ _ (fun _ _ => rfl) (fun _ _ => rfl) hho
    | true =>
      have hi := (hbor hbb).1
      have hl : hout.length = 0 := by rw [hi] at hinl; simp only [List.length_nil] at hinl; omega
      have : hout = [] := List.length_eq_zero_iff.1 hl
      rw [this] at hho ⊢
      exact hho
  obtain ⟨β1, g1, g2, g3⟩ := Nm.rep β hnm hnews hres'
  have hg1 : ∀ t ∈ σ.us, β1 t = β t := fun t ht => g1 t (fun ht' => by
    obtain ⟨x, hx1, hx2⟩ := List.mem_map.1 ht'
    exact hfrs x hx1 (hx2 ▸ ht))
  have hidsus : ∀ t ∈ ids, t ∈ σ.us := fun t ht => by
    rw [← hkz] at ht
    obtain ⟨x, hx1, rfl⟩ := List.mem_map.1 ht
    exact h0 _ (.inr (List.mem_flatMap.2 ⟨x, hn.2.1 x (hhin x hx1), by simp⟩))
  have hho2 := HRep.rename' (k := 0) (β := β1) (ids := ids) (by omega) (fun e he => hmen e (by simp [he])) (fun i t hi => by
    rw [Nat.zero_add, hβ' i t hi, hg1 t (hidsus t (List.mem_of_getElem? hi))]) hho'
  refine Rel.step (β1 := β1) (bk := bk) (br := bIn) (bn := b2 ++ b1) h0 h hd ?_ ?_ p (by rw [hc]; exact hKp) hsz ?_ hg1 ?_ ?_ ?_ ?_ ?_ hqt
  · rw [hc]
    simp only [List.map_append]
    refine List.nodup_append.2 ⟨List.Nodup.sublist (zip_sub ids hout) hids, hnews, ?_⟩
    intro x hx y hy e
    subst e
    obtain ⟨q, hq1, hq2⟩ := List.mem_map.1 hy
    exact hfrs q hq1 (hq2 ▸ hidsus x ((zip_sub ids hout).subset hx))
  · intro x hx
    rw [hc] at hx ⊢
    rcases List.mem_append.1 hx with hx | hx
    · exact .inl (List.of_mem_zip hx).1
    · exact .inr (hfrs x hx)
  · intro b hb hb'; exact hkeep b hb hb'
  · intro t ht
    refine g1 t (fun ht' => ?_)
    obtain ⟨x, hx1, hx2⟩ := List.mem_map.1 ht'
    have := hmm x hx1
    omega
  · exact (List.perm_append_comm.nodup_iff).1 hnd'
  · intro b hb
    have := hown' b (by simp only [List.mem_append] at hb ⊢; exact hb.symm)
    exact ⟨this.2, this.1⟩
  · rw [hc]
    exact HRep.app hho2 g3
  · intro d' hd'
    rw [hc] at hd'
    cases hd'
    exact g2

/-- A call of a function of the program. -/
theorem v_call {c : Cert} {f : FuncId} {args : Array Operand} {tys : Array TypeId} {as ds : List D} {ids : List Nat} {bor : Bool} {hin hout : List Ent} {R : Option (D × List Ent)} {res d : D}
    {news : List (Nat × Ent)} (hg : o.guard = none) (hop : o.op = .call { callee := .value (.func f), args := args, argTypes := tys }) (hcf : ∀ xs, pureSem Γ.P (callFunc f xs) = some (.enter f xs))
    (hal : as.length = args.size) (hargs : ∀ (k : Nat) (d : D), as[k]? = some d → ∃ x, args[k]? = some x ∧ OpF c x d)
    (ham : AmL c.hn ids bor as ds) (hids : ids.Nodup) (hinl : hin.length = ids.length) (hhin : ∀ x ∈ ids.zip hin, x ∈ c.hn) (hmen : ∀ e ∈ hin ++ hout, e.men = [])
    (hok : Ok Γ.P f ds hin R) (hR : R = some (res, hout)) (hol : hout.length ≤ hin.length) (hnm : Nm res d news) (hnews : (news.map (·.1)).Nodup)
    (hc : c = { tn := c.tn, hn := c.hn, out := some d, hx := ids, hw := ids.zip hout ++ news, fr := news.map (·.1) }) (hmm : ∀ x ∈ news, Γ.m ≤ x.1)
    (hbor : bor = true → ids = [] ∧ res.flat) : Valid Γ ops o c := by
  intro σ a w Q hdst hn ⟨h0, β, bs, hr⟩
  have hwt : Region.wanted o (yielded ops a.tmps) = true := by simp [Region.wanted, hg]
  rw [if_pos hwt]
  have hvs : RepCs β (NS Γ w bs) w true as (args.toList.map a.eval) [] := repCs_args (c := c) (by simpa using hal) (fun k d hk => by
    obtain ⟨x, h1, h2⟩ := hargs k d hk
    exact ⟨x, by rw [Array.getElem?_toList]; exact h1, OpF.rep h2 hn hr⟩)
  have hex : (execOp a.eval o).run Γ.P w = .ok (.enter f (args.map a.eval)) w := by
    have e : execOp a.eval o = callFunc f ((#[] ++ args.map a.eval) ++ #[]) := by
      simp only [execOp, hop, resolve]
      rfl
    rw [e]
    simp only [Array.empty_append, Array.append_empty]
    exact pureSem_run _ _ w (hcf _)
  unfold Oper.wp
  rw [hex, Oper.upon_enter]
  have := call_core (f := f) (dst := o.dst) h0 hr hdst hn hvs ham hids hinl hhin hmen hok hR hol hnm hnews hc hmm hbor
  rw [show (args.toList.map a.eval).toArray = args.map a.eval from (List.map_toArray ..).symm.trans (by rw [Array.toArray_toList])] at this
  refine this.mono fun e w' he => ?_
  obtain ⟨v, rfl, hrel⟩ := he
  exact hrel

/-- A call of a function value whose function is known. -/
theorem v_callv {c : Cert} {f : FuncId} {x0 : Operand} {args : Array Operand} {tys : Array TypeId} {as ds caps : List D} {ids : List Nat} {bor : Bool} {hin hout : List Ent} {R : Option (D × List Ent)} {res d : D}
    {news : List (Nat × Ent)} (hg : o.guard = none) (hop : o.op = .call { callee := .value x0, args := args, argTypes := tys }) (hx0 : OpF c x0 (.fn f caps)) (hcf : ∀ xs, pureSem Γ.P (callFunc f xs) = some (.enter f xs))
    (hal : as.length = args.size) (hargs : ∀ (k : Nat) (d : D), as[k]? = some d → ∃ x, args[k]? = some x ∧ OpF c x d)
    (ham : AmL c.hn ids bor (as ++ caps) ds) (hids : ids.Nodup) (hinl : hin.length = ids.length) (hhin : ∀ x ∈ ids.zip hin, x ∈ c.hn) (hmen : ∀ e ∈ hin ++ hout, e.men = [])
    (hok : Ok Γ.P f ds hin R) (hR : R = some (res, hout)) (hol : hout.length ≤ hin.length) (hnm : Nm res d news) (hnews : (news.map (·.1)).Nodup)
    (hc : c = { tn := c.tn, hn := c.hn, out := some d, hx := ids, hw := ids.zip hout ++ news, fr := news.map (·.1) }) (hmm : ∀ x ∈ news, Γ.m ≤ x.1)
    (hbor : bor = true → ids = [] ∧ res.flat) : Valid Γ ops o c := by
  intro σ a w Q hdst hn ⟨h0, β, bs, hr⟩
  have hwt : Region.wanted o (yielded ops a.tmps) = true := by simp [Region.wanted, hg]
  rw [if_pos hwt]
  have hvs : RepCs β (NS Γ w bs) w true as (args.toList.map a.eval) [] := repCs_args (c := c) (by simpa using hal) (fun k d hk => by
    obtain ⟨x, h1, h2⟩ := hargs k d hk
    exact ⟨x, by rw [Array.getElem?_toList]; exact h1, OpF.rep h2 hn hr⟩)
  have h1 := OpF.rep hx0 hn hr
  simp only [Rep] at h1
  obtain ⟨_, _, ws, hfv, hcaps⟩ := h1
  have hex : (execOp a.eval o).run Γ.P w = .ok (.enter f (args.map a.eval ++ ws.toArray)) w := by
    have e : execOp a.eval o = (do let d ← Deferred.ofValue (a.eval x0) (args.map a.eval); invoke d.target d.args) := by
      simp only [execOp, hop, resolve]
    rw [e, hfv]
    show (callFunc f ((#[] ++ args.map a.eval) ++ ws.toArray)).run Γ.P w = _
    rw [Array.empty_append]
    exact pureSem_run _ _ w (hcf _)
  unfold Oper.wp
  rw [hex, Oper.upon_enter]
  have := call_core (f := f) (dst := o.dst) h0 hr hdst hn (hvs.append hcaps) ham hids hinl hhin hmen hok hR hol hnm hnews hc hmm hbor
  rw [show (args.toList.map a.eval ++ ws).toArray = args.map a.eval ++ ws.toArray by rw [← List.append_toArray, ← List.map_toArray, Array.toArray_toList]] at this
  refine this.mono fun e w' he => ?_
  obtain ⟨v, rfl, hrel⟩ := he
  exact hrel

end Go.Im

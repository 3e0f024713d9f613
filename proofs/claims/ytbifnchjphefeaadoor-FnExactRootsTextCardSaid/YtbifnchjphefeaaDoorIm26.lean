import Derived.Test.YtbifnchjphefeaaDoorIm25
set_option linter.unusedVariables false
namespace Go.Im
open Go

section
variable {Γ : Ctx} {fc : Code} {k : List II} {σ : St} {T : Type} {K : T → Option (D × List Ent)}

theorem RepCs.free {β : Nat → Loc} {N : Nat → Prop} {w : World} : ∀ {ds : List D} {vs : List Value} {bs : List Nat}, ds.all D.free = true → RepCs β N w true ds vs bs → bs = []
  | [], vs, bs, _, h => by simp only [RepCs] at h; exact h.2
  | d :: ds, vs, bs, hf, h => by
    simp only [List.all_cons, Bool.and_eq_true] at hf
    simp only [RepCs] at h
    obtain ⟨v, vs', b1, b2, rfl, rfl, h3, h4⟩ := h
    rw [Rep.free hf.1 h3, RepCs.free hf.2 h4]
    rfl

theorem Emb.free {hn : List (Nat × Ent)} {ds ds' : List D} {ts : List Nat} (h : Emb hn ds ds' ts) : ds.all D.free = true := by
  induction h with
  | nil => rfl
  | keep hd _ ih =>
    rename_i d _ _ _ _
    simp only [List.all_cons, ih, Bool.and_true]
    cases d <;> simp_all [D.nest, D.free]
  | nilsl _ _ _ ih => simpa [D.free] using ih
  | move _ _ _ _ ih => simpa [D.free] using ih

theorem Emb.lengths {hn : List (Nat × Ent)} {ds ds' : List D} {ts : List Nat} (h : Emb hn ds ds' ts) : ds'.length = ds.length := by
  induction h with
  | nil => rfl
  | keep _ _ ih => simp [ih]
  | nilsl _ _ _ ih => simp [ih]
  | move _ _ _ _ ih => simp [ih]

theorem Emb.menL {hn : List (Nat × Ent)} {ds ds' : List D} {ts : List Nat} (h : Emb hn ds ds' ts) : D.men.menL ds' = [] := by
  induction h with
  | nil => rfl
  | keep hd _ ih =>
    rename_i d _ _ _ _
    cases d <;> simp_all [D.nest, D.men, D.men.menL]
  | nilsl _ _ _ ih => simpa [D.men, D.men.menL] using ih
  | move _ _ _ _ ih => simpa [D.men, D.men.menL] using ih

theorem menAll {l : List Ent} (h : l.flatMap Ent.men = []) : ∀ e ∈ l, e.men = [] := fun e he => List.eq_nil_iff_forall_not_mem.2 (fun t ht => by
  have : t ∈ l.flatMap Ent.men := List.mem_flatMap.2 ⟨e, he, ht⟩
  rw [h] at this
  simp at this)

theorem lk_nodup {l : List (Nat × Ent)} {t : Nat} {e : Ent} (h : lk l t = some e) : (t, e) ∈ l := lk_mem h

/-- What a cell of a box names is laid into the box. -/
theorem J_fold {e : Option T} (t : Nat) {cs cs' : List D} {ts : List Nat} (hl : lk σ.hp t = some (.box cs)) (he : Emb (σ.hp.filter (fun x => x.1 != t)) cs cs' ts)
    (hj : J Γ fc k ⟨σ.tm, (t, .box cs') :: (σ.hp.filter (fun x => x.1 != t)).filter (fun x => !ts.contains x.1), σ.us⟩ e K) : J Γ fc k σ e K := by
  refine J_weak (fun a w hr => ?_) hj
  obtain ⟨h0, β, bs, h⟩ := hr
  obtain ⟨b1, bk, p, hE, hrest⟩ := HRep.take h.hp h.keys (lk_mem hl)
  obtain ⟨hnil, hz, ws, hO, hone, hcs⟩ := hE
  have hb1 := RepCs.free he.free hcs
  subst hb1
  have hkf : ((σ.hp.filter (fun x => x.1 != t)).map (·.1)).Nodup := List.Nodup.sublist (List.Sublist.map _ List.filter_sublist) h.keys
  obtain ⟨c1, ck, q1, q2, q3⟩ := Emb.rep he hrest hkf (fun x hx _ => hx) hcs
  have hp : bs.Perm ((β t).own ++ (c1 ++ ck)) := by
    refine p.trans (List.Perm.append_left _ ?_)
    simpa using q1
  have hNS : ∀ b, NS Γ w bs b → NS Γ w ((β t).own ++ (c1 ++ ck)) b := fun b hb => NS.sub (fun x hx => hp.mem_iff.2 hx) hb
  refine ⟨?_, β, (β t).own ++ (c1 ++ ck), { defers := h.defers, size := h.size, keys := ?_, par := h.par, grow := h.grow, gh := h.gh, quiet := h.quiet, keep := h.keep, hp := ⟨c1, ck, rfl, ⟨hnil, by rw [he.lengths]; exact hz, ws, hO, hone, ?_⟩, ?_⟩, nodup := hp.nodup_iff.1 h.nodup, own := fun b hb => h.own b (hp.mem_iff.2 hb), tm := ?_ }⟩
  · intro t' ht'
    rcases ht' with ht' | ht'
    · exact h0 t' (.inl ht')
    · simp only [menH, List.flatMap_cons, Ent.men, he.menL, List.mem_append, List.mem_cons, List.not_mem_nil, or_false] at ht'
      rcases ht' with rfl | ht'
      · exact h0 t' (.inr (List.mem_flatMap.2 ⟨_, lk_mem hl, by simp⟩))
      · obtain ⟨x, hx, hx'⟩ := List.mem_flatMap.1 ht'
        exact h0 t' (.inr (List.mem_flatMap.2 ⟨x, (List.mem_filter.1 (List.mem_filter.1 hx).1).1, hx'⟩))
  · simp only [List.map_cons, List.nodup_cons]
    refine ⟨fun hin => ?_, List.Nodup.sublist (List.Sublist.map _ List.filter_sublist) hkf⟩
    obtain ⟨x, hx, hx'⟩ := List.mem_map.1 hin
    have := (List.mem_filter.1 (List.mem_filter.1 hx).1).2
    simp [hx'] at this
  · exact (RepCs.frame (fun b hb => ⟨hNS b hb, rfl⟩) cs' false ws c1 (fun _ _ => rfl) (fun _ _ => rfl) q2).up
  · exact HRep.frame (fun b hb => ⟨hNS b hb, rfl⟩) _ _ (fun _ _ => rfl) (fun _ _ => rfl) q3
  · intro t' d hd
    obtain ⟨v, h1, h2⟩ := h.tm t' d hd
    exact ⟨v, h1, Rep.frame (fun b hb => ⟨hNS b hb, rfl⟩) d true v [] (by simp) (fun _ _ => rfl) h2⟩

/-- What a box owns gets names. -/
theorem J_unfold {e : Option T} (t : Nat) {cs cs' : List D} {es : List (Nat × Ent)} (hl : lk σ.hp t = some (.box cs)) (hn : NmL cs cs' es) (hlen : cs'.length = cs.length) (hnd : nodupK (es.map (·.1)) = true)
    (hf : es.all (fun x => !σ.us.contains x.1 && Nat.ble Γ.m x.1) = true)
    (hj : J Γ fc k ⟨σ.tm, (t, .box cs') :: (es ++ σ.hp.filter (fun x => x.1 != t)), es.map (·.1) ++ σ.us⟩ e K) : J Γ fc k σ e K := by
  refine J_weak (fun a w hr => ?_) hj
  obtain ⟨h0, β, bs, h⟩ := hr
  obtain ⟨b1, bk, p, hE, hrest⟩ := HRep.take h.hp h.keys (lk_mem hl)
  obtain ⟨hnil, hz, ws, hO, hone, hcs⟩ := hE
  have hnd' := nodupK_spec hnd
  have hfr : ∀ i ∈ es.map (·.1), i ∉ σ.us ∧ Γ.m ≤ i := fun i hi => by
    obtain ⟨x, hx, rfl⟩ := List.mem_map.1 hi
    have := List.all_eq_true.1 hf x hx
    simp only [Bool.and_eq_true, Bool.not_eq_eq_eq_not, Bool.not_true, List.contains_eq_mem, decide_eq_false_iff_not] at this
    exact ⟨this.1, Nat.le_of_ble_eq_true this.2⟩
  obtain ⟨β1, g1, g2, g3⟩ := NmL.rep β hn hnd' hcs
  have htu : t ∈ σ.us := h0 t (.inr (List.mem_flatMap.2 ⟨_, lk_mem hl, by simp⟩))
  have hβt : β1 t = β t := g1 t (fun hi => (hfr t hi).1 htu)
  have hβu : ∀ t' ∈ σ.us, β1 t' = β t' := fun t' ht' => g1 t' (fun hi => (hfr t' hi).1 ht')
  have hmen := NmL.men hn
  refine ⟨?_, β1, (β t).own ++ ([] ++ (b1 ++ bk)), { defers := h.defers, size := h.size, keys := ?_, par := fun q hq => ?_, grow := h.grow, gh := h.gh, quiet := h.quiet, keep := h.keep, hp := ?_, nodup := ?_, own := fun b hb => h.own b (p.mem_iff.2 (by simpa using hb)), tm := ?_ }⟩
  · intro t' ht'
    rcases ht' with ht' | ht'
    · exact List.mem_append_right _ (h0 t' (.inl ht'))
    · simp only [menH, List.flatMap_cons, List.flatMap_append, List.mem_append, Ent.men, List.mem_cons] at ht'
      rcases ht' with (rfl | ht') | ht' | ht'
      · exact List.mem_append_right _ htu
      · exact List.mem_append_left _ (hmen.1 t' ht')
      · obtain ⟨x, hx, hx'⟩ := List.mem_flatMap.1 ht'
        have hx2 : t' ∈ x.1 :: x.2.men := hx'
        rw [hmen.2 x hx] at hx2
        simp at hx2
        subst hx2
        exact List.mem_append_left _ (List.mem_map.2 ⟨x, hx, rfl⟩)
      · obtain ⟨x, hx, hx'⟩ := List.mem_flatMap.1 ht'
        exact List.mem_append_right _ (h0 t' (.inr (List.mem_flatMap.2 ⟨x, (List.mem_filter.1 hx).1, hx'⟩)))
  · simp only [List.map_cons, List.map_append, List.nodup_cons]
    refine ⟨?_, List.nodup_append.2 ⟨hnd', List.Nodup.sublist (List.Sublist.map _ List.filter_sublist) h.keys, ?_⟩⟩
    · intro hin
      rcases List.mem_append.1 hin with hin | hin
      · exact (hfr t hin).1 htu
      · obtain ⟨x, hx, hx'⟩ := List.mem_map.1 hin
        have := (List.mem_filter.1 hx).2
        simp [hx'] at this
    · intro i hi j hj' hij
      subst hij
      obtain ⟨x, hx, hx'⟩ := List.mem_map.1 hj'
      exact (hfr i hi).1 (h0 i (.inr (List.mem_flatMap.2 ⟨x, (List.mem_filter.1 hx).1, by simp [hx']⟩)))
  · rw [← h.par q hq]
    refine g1 q (fun hi => ?_)
    have := (hfr q hi).2
    omega
  · have hNS : ∀ b, NS Γ w bs b → NS Γ w ((β t).own ++ ([] ++ (b1 ++ bk))) b := fun b hb => NS.sub (fun x hx => p.mem_iff.2 (by simpa using hx)) hb
    refine ⟨[], b1 ++ bk, by rw [hβt], ?_, HRep.app ?_ ?_⟩
    · rw [hβt]
      exact ⟨hnil, by rw [hlen]; exact hz, ws, hO, hone, RepCs.frame (fun b hb => ⟨hNS b hb, rfl⟩) cs' true ws [] (by simp) (fun _ _ => rfl) g2⟩
    · exact HRep.frame (fun b hb => ⟨hNS b hb, rfl⟩) _ _ (fun _ _ => rfl) (fun _ _ => rfl) g3
    · refine HRep.frame (fun b hb => ⟨hNS b hb, rfl⟩) _ _ (fun _ _ => rfl) (fun t' ht' => hβu t' ?_) hrest
      obtain ⟨x, hx, hx'⟩ := List.mem_flatMap.1 ht'
      exact h0 t' (.inr (List.mem_flatMap.2 ⟨x, (List.mem_filter.1 hx).1, hx'⟩))
  · have := p.nodup_iff.1 h.nodup
    simpa using this
  · have hNS : ∀ b, NS Γ w bs b → NS Γ w ((β t).own ++ ([] ++ (b1 ++ bk))) b := fun b hb => NS.sub (fun x hx => p.mem_iff.2 (by simpa using hx)) hb
    intro t' d hd
    obtain ⟨v, h1, h2⟩ := h.tm t' d hd
    exact ⟨v, h1, Rep.frame (fun b hb => ⟨hNS b hb, rfl⟩) d true v [] (by simp) (fun q hq => hβu q (h0 q (.inl (List.mem_flatMap.2 ⟨_, hd, hq⟩)))) h2⟩

/-- Going back, with what was lent. -/
theorem J_ret1 {v : T} {fn : Func} {rs : List ResultVar} {ds ds' : List D} {ts : List Nat} {hout : List Ent} (hk : k = [] ∨ ∃ p k', k = .c p :: k' ∧ sub fc p = .ret) (hf : Γ.P.funcs[Γ.fid]? = some fn)
    (hrs : fn.results.toList = rs) (hds : resL Γ.P σ.tm σ.hp rs = some ds) (hret : Rets σ.hp ds ds' ts) (hm1 : D.men.menL ds' = []) (hts : ts.all (fun t => Nat.ble Γ.m t) = true)
    (hout' : (enumE hout).map (fun x => lk σ.hp x.1) = (enumE hout).map (fun x => some x.2)) (hlen : hout.length ≤ Γ.m) (hmen : hout.flatMap Ent.men = [])
    (hK : K v = some (outD ds', hout)) : J Γ fc k σ (some v) K := by
  refine J_ret hk hf hrs (resL_spec hds) hret (fun x hx => ⟨facts_of hout' x hx, fun ht => ?_⟩) hlen (by rw [hm1]; simp) (fun e he t ht => ?_) hK
  · have h1 := Nat.le_of_ble_eq_true (List.all_eq_true.1 hts _ ht)
    have h2 := (List.getElem?_eq_some_iff.1 (enumE_get.1 hx)).1
    omega
  · have : t ∈ hout.flatMap Ent.men := List.mem_flatMap.2 ⟨e, he, ht⟩
    rw [hmen] at this
    simp at this

theorem J_cont {e : Option T} (k' : List II) (σ' : St) (hj : J Γ fc k' σ' e K) (h : J Γ fc k' σ' e K → J Γ fc k σ e K) : J Γ fc k σ e K := h hj
end
end Go.Im

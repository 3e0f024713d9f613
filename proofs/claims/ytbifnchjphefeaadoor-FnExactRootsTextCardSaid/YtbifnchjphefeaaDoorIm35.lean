import Derived.Test.YtbifnchjphefeaaDoorIm34
set_option linter.unusedVariables false
namespace Go.Im
open Go

/-- Two lists of one length. -/
def same {α β : Type} (xs : List α) (ys : List β) : Option Unit := if xs.length = ys.length then some () else none

theorem same_len {α β : Type} {xs : List α} {ys : List β} {u : Unit} (h : same xs ys = some u) : xs.length = ys.length := by
  unfold same at h
  split at h
  · assumption
  · cases h

section
variable {Γ : Ctx} {fc : Code} {k : List II} {σ : St} {T : Type} {K : T → Option (D × List Ent)}

theorem J_lendT {e0 : Option T} {ix : Int} {α : Type} {enc : α → List D} {A : List α} {a : α} {z z' n : Nat} {ys : List (List D)} (t j t' : Nat) (h : idx A ix = some a) (hl : lk σ.hp t = some (.row z (A.map enc))) (hej : (enc a)[j]? = some (.s true z' n ys))
    (hf : (!σ.us.contains t' && Nat.ble Γ.m t') = true)
    (hj : J Γ fc k ⟨σ.tm, (t, .lent z (A.map enc) ix.toNat j t' n) :: (t', .row z' ys) :: σ.hp.filter (fun x => x.1 != t), t' :: σ.us⟩ e0 K) : J Γ fc k σ e0 K := by
  obtain ⟨_, h2⟩ := idx_some h
  exact J_lend t ix.toNat j t' hl (by rw [List.getElem?_map, h2]; rfl) hej hf hj

theorem J_backT {e0 : Option T} {ix : Int} {α : Type} {enc : α → List D} {A : List α} {a b : α} {z z' n n' : Nat} {ys : List (List D)} (t j t' : Nat) (h : idx A ix = some a) (hl : lk σ.hp t = some (.lent z (A.map enc) ix.toNat j t' n)) (hl' : lk σ.hp t' = some (.row z' ys))
    (hne : (t == t') = false) (hb : enc b = (enc a).set j (.s true z' n' ys)) (hn : n' = n) (hjlt : j < (enc a).length) (hyl : ys.length = n)
    (hj : J Γ fc k ⟨σ.tm, (t, .row z ((A.set ix.toNat b).map enc)) :: (σ.hp.filter (fun x => x.1 != t)).filter (fun x => x.1 != t'), σ.us⟩ e0 K) : J Γ fc k σ e0 K := by
  obtain ⟨_, h2⟩ := idx_some h
  subst hn
  refine J_back t ix.toNat j t' hl hl' hne (by rw [List.getElem?_map, h2]; rfl) hjlt hyl ?_
  rw [← hb, ← List.map_set]
  exact hj

/-- A nil slice in a box gets a row of its own. -/
theorem J_nilb {e : Option T} (t j id z : Nat) {cs : List D} (hl : lk σ.hp t = some (.box cs)) (hc : cs[j]? = some (.sc (.slice none 0 0))) (hm : Γ.m ≤ id) (hid : σ.us.contains id = false)
    (hj : J Γ fc k ⟨σ.tm, (t, .box (cs.set j (.rf id 0 0 none))) :: (id, .row z []) :: σ.hp.filter (fun x => x.1 != t), id :: σ.us⟩ e K) : J Γ fc k σ e K := by
  refine J_weak (fun a w hr => ?_) hj
  obtain ⟨h0, β, bs, h⟩ := hr
  have hidu : id ∉ σ.us := by simpa using hid
  have hmT : ∀ x ∈ σ.tm, ∀ t' ∈ x.2.men, t' ≠ id := fun x hx t' ht' e => hidu (e ▸ h0 t' (.inl (List.mem_flatMap.2 ⟨x, hx, ht'⟩)))
  have hmH : ∀ t' ∈ menH σ.hp, t' ≠ id := fun t' ht' e => hidu (e ▸ h0 t' (.inr ht'))
  have htm : t ∈ menH σ.hp := List.mem_flatMap.2 ⟨_, lk_mem hl, by simp⟩
  have htne : t ≠ id := hmH t htm
  obtain ⟨b1, bk, p, ⟨hnil, hz, ws, hO, hone, hcs⟩, hrest⟩ := HRep.take h.hp h.keys (lk_mem hl)
  have hjl : j < cs.length := (List.getElem?_eq_some_iff.1 hc).1
  have hsplit : cs = cs.take j ++ ([.sc (.slice none 0 0)] ++ cs.drop (j + 1)) := by
    conv => lhs; rw [← List.take_append_drop j cs, List.drop_eq_getElem_cons hjl, (List.getElem?_eq_some_iff.1 hc).2]
    rfl
  have hset : cs.set j (.rf id 0 0 none) = cs.take j ++ ([.rf id 0 0 none] ++ cs.drop (j + 1)) := by
    rw [List.set_eq_take_append_cons_drop, if_pos hjl]; rfl
  have hmcs : ∀ t' ∈ D.men.menL cs, t' ≠ id := fun t' ht' => hmH t' (List.mem_flatMap.2 ⟨_, lk_mem hl, by simp [Ent.men, ht']⟩)
  refine ⟨?_, updB β id ⟨true, 0, 0, z, 0⟩, (β t).own ++ (b1 ++ bk), ?_⟩
  · intro q hq
    rcases hq with hq | hq
    · exact List.mem_cons_of_mem _ (h0 q (.inl hq))
    · simp only [menH, List.flatMap_cons, Ent.men, List.mem_append, List.mem_cons, List.not_mem_nil, or_false] at hq
      rcases hq with (rfl | hq) | rfl | hq
      · exact List.mem_cons_of_mem _ (h0 q (.inr htm))
      · rw [hset] at hq
        obtain ⟨d, hd, hqd⟩ : ∃ d ∈ cs.take j ++ ([.rf id 0 0 none] ++ cs.drop (j + 1)), q ∈ d.men := by
          clear hset hsplit
          generalize cs.take j ++ ([D.rf id 0 0 none] ++ cs.drop (j + 1)) = l at hq
          induction l with
          | nil => simp [D.men.menL] at hq
          | cons d l ih =>
            simp only [D.men.menL, List.mem_append] at hq
            rcases hq with hq | hq
            · exact ⟨d, by simp, hq⟩
            · obtain ⟨d', h1, h2⟩ := ih hq
              exact ⟨d', by simp [h1], h2⟩
        simp only [List.mem_append, List.mem_singleton] at hd
        rcases hd with hd | rfl | hd
        · exact List.mem_cons_of_mem _ (h0 q (.inr (List.mem_flatMap.2 ⟨_, lk_mem hl, List.mem_cons_of_mem _ (mem_menL (List.mem_of_mem_take hd) hqd)⟩)))
        · simp [D.men] at hqd; simp [hqd]
        · exact List.mem_cons_of_mem _ (h0 q (.inr (List.mem_flatMap.2 ⟨_, lk_mem hl, List.mem_cons_of_mem _ (mem_menL (List.mem_of_mem_drop hd) hqd)⟩)))
      · simp
      · obtain ⟨x, hx, hx'⟩ := List.mem_flatMap.1 hq
        exact List.mem_cons_of_mem _ (h0 q (.inr (List.mem_flatMap.2 ⟨x, (List.mem_filter.1 hx).1, hx'⟩)))
  · have hNS : ∀ b, NS Γ w bs b → NS Γ w ((β t).own ++ (b1 ++ bk)) b := fun b hb => NS.sub (fun x hx => p.mem_iff.2 hx) hb
    refine { defers := h.defers, size := h.size, keys := ?_, par := fun k' hk' => ?_, grow := h.grow, gh := h.gh, quiet := h.quiet, keep := h.keep, hp := ?_, nodup := p.nodup_iff.1 h.nodup, own := fun b hb => h.own b (p.mem_iff.2 hb), tm := ?_ }
    · simp only [List.map_cons, List.nodup_cons, List.mem_cons, not_or]
      refine ⟨⟨htne, fun hin => ?_⟩, fun hin => ?_, List.Nodup.sublist (List.Sublist.map _ List.filter_sublist) h.keys⟩
      · obtain ⟨x, hx, hx'⟩ := List.mem_map.1 hin
        have := (List.mem_filter.1 hx).2
        simp [hx'] at this
      · obtain ⟨x, hx, hx'⟩ := List.mem_map.1 hin
        exact hmH x.1 (List.mem_flatMap.2 ⟨x, (List.mem_filter.1 hx).1, by simp⟩) hx'
    · rw [updB_ne (by omega)]; exact h.par k' hk'
    · refine ⟨b1, bk, by rw [updB_ne htne], ?_, [], bk, by simp [updB_self, Loc.own], ?_, ?_⟩
      · rw [updB_ne htne]
        refine ⟨hnil, by simpa using hz, ws, hO, hone, ?_⟩
        have hcs' : RepCs (updB β id ⟨true, 0, 0, z, 0⟩) (NS Γ w ((β t).own ++ (b1 ++ bk))) w true cs ws b1 := RepCs.frame (fun b hb => ⟨hNS b hb, rfl⟩) cs true ws b1 (fun _ _ => rfl) (fun q hq => updB_ne (hmcs q hq)) hcs
        obtain ⟨c1, c2, e1, g1, g2⟩ := hcs'.split j
        have hdj : cs.drop j = .sc (.slice none 0 0) :: cs.drop (j + 1) := by
          rw [List.drop_eq_getElem_cons hjl, (List.getElem?_eq_some_iff.1 hc).2]
        rw [hdj] at g2
        simp only [RepCs] at g2
        obtain ⟨v, vs, d1, d2, ev, e2, hv, g3⟩ := g2
        simp only [Rep] at hv
        obtain ⟨rfl, rfl⟩ := hv
        rw [hset]
        have hrf : RepCs (updB β id ⟨true, 0, 0, z, 0⟩) (NS Γ w ((β t).own ++ (b1 ++ bk))) w true [.rf id 0 0 none] [.slice none 0 0] [] := by
          simp only [RepCs, Rep, updB_self]
          exact ⟨_, [], [], [], rfl, rfl, ⟨trivial, rfl, .inl ⟨trivial, trivial, trivial, rfl⟩⟩, rfl, rfl⟩
        have key := g1.append (hrf.append g3)
        have ew : ws = ws.take j ++ ([.slice none 0 0] ++ vs) := by
          conv => lhs; rw [← List.take_append_drop j ws, ev]
          rfl
        rw [ew]
        clear hNS hcs' ew hsplit hset
        generalize NS Γ w ((β t).own ++ (b1 ++ bk)) = N' at *
        rw [e1, e2]
        exact key
      · rw [updB_self]; exact ⟨rfl, by simp, .inl ⟨rfl, rfl, rfl⟩⟩
      · refine HRep.frame (fun b hb => ⟨hNS b hb, rfl⟩) _ _ (fun _ _ => rfl) (fun t' ht' => updB_ne (hmH t' ?_)) hrest
        obtain ⟨x, hx, hx'⟩ := List.mem_flatMap.1 ht'
        exact List.mem_flatMap.2 ⟨x, (List.mem_filter.1 hx).1, hx'⟩
    · intro t' d hd
      obtain ⟨v, h1, h2⟩ := h.tm t' d hd
      exact ⟨v, h1, Rep.frame (fun b hb => ⟨hNS b hb, rfl⟩) d true v [] (by simp) (fun q hq => updB_ne (hmT _ hd q hq)) h2⟩

/-! ### Is a slice nil? -/
theorem J_nb {e : Option T} (t : Nat) {n : Nat} (hl : lk σ.tm t = some (.nb n)) (h1 : n = 0 → J Γ fc k ⟨(t, .sc (.bool true)) :: σ.tm, σ.hp, σ.us⟩ e K) (h2 : J Γ fc k ⟨(t, .sc (.bool false)) :: σ.tm, σ.hp, σ.us⟩ e K) : J Γ fc k σ e K := by
  intro r out he hk a w hrel
  obtain ⟨h0, β, bs, h⟩ := hrel
  obtain ⟨v, hv, hr⟩ := h.tm t _ (lk_mem hl)
  simp only [Rep] at hr
  obtain ⟨_, b, rfl, hb⟩ := hr
  have key : ∀ b', a.tmps[t]? = some (.bool b') → Rel Γ ⟨(t, .sc (.bool b')) :: σ.tm, σ.hp, σ.us⟩ a w := by
    intro b' hb'
    refine ⟨fun t' ht' => h0 t' ?_, β, bs, { defers := h.defers, size := h.size, keys := h.keys, par := h.par, grow := h.grow, gh := h.gh, quiet := h.quiet, keep := h.keep, hp := h.hp, nodup := h.nodup, own := h.own, tm := ?_ }⟩
    · rcases ht' with ht' | ht'
      · simp only [menT, List.flatMap_cons, D.men, List.nil_append] at ht'
        exact .inl ht'
      · exact .inr ht'
    · intro t' d hd
      rcases List.mem_cons.1 hd with hd | hd
      · cases hd
        exact ⟨_, hb', by simp [Rep]⟩
      · exact h.tm t' d hd
  cases b with
  | true => exact h1 (hb rfl) r out he hk a w (key _ hv)
  | false => exact h2 r out he hk a w (key _ hv)

theorem J_told {e e' : Option T} (h : e = e') (hj : J Γ fc k σ e' K) : J Γ fc k σ e K := h ▸ hj
end

section
variable {Γ : Ctx} {ops : Array Oper} {o : Oper}
theorem run_nileq {P : Program} {T el : TypeId} {w : World} {ad : Option Addr} {n cap : Nat} (hT : pureSem P (underlying T) = some (.slice el)) :
    (Op.equal T (.slice ad n cap) (.slice none 0 0)).run P w = .ok ad.isNone w := by
  unfold Op.equal Op.maxDepth
  show (Op.equalIn (9999 + 1) T _ _).run P w = _
  unfold Op.equalIn
  rw [run_bind_ok (pureSem_run _ _ w hT)]
  cases ad <;> rfl

theorem v_nileq {c : Cert} {x : Operand} {T U el : TypeId} {wo : Bool} {z n : Nat} {xs : List (List D)} (hg : o.guard = none) (hop : o.op = .binOp .eql T x (.const (.slice none 0 0)) U) (hc : c = { tn := c.tn, out := some (.nb n) })
    (hx : OpF c x (.s wo z n xs)) (hT : pureSem Γ.P (underlying T) = some (.slice el)) : Valid Γ ops o c := by
  refine valid_val (d := .nb n) (f := fun ρ => do eqGuard .eql T x (.const (.slice none 0 0)) (ρ x) (ρ (.const (.slice none 0 0))); binOp .eql T (ρ x) (ρ (.const (.slice none 0 0)))) hg (fun ρ => by simp [execOp, hop]) (by rw [hc]) fun β bs σ a w hn hr => ?_
  have h1 := OpF.rep hx hn hr
  simp only [Rep] at h1
  obtain ⟨_, _, ad, cap, hv, _, h5⟩ := h1
  refine ⟨.bool ad.isNone, ?_, ?_⟩
  · have he : a.eval (.const (.slice none 0 0)) = .slice none 0 0 := rfl
    rw [hv, he]
    rw [run_bind_ok (a := ()) (w' := w) rfl]
    show (do pure (Value.bool (← Op.equal T (.slice ad n cap) (.slice none 0 0))) : Sem Value).run Γ.P w = _
    rw [run_bind_ok (run_nileq hT)]
    rfl
  · simp only [Rep]
    refine ⟨trivial, ad.isNone, rfl, fun hn0 => ?_⟩
    cases ad with
    | some _ => cases hn0
    | none =>
      rcases h5 with h5 | ⟨_, b, off, ws, h6, _⟩ | ⟨_, b, off, ws, bs', h6, _⟩
      · exact h5.1
      · cases h6
      · cases h6
end
end Go.Im

import Derived.Test.YtbifnchjphefeaaDoorIm39
set_option linter.unusedVariables false
namespace Go.Im
open Go

theorem RepEs.cut {β : Nat → Loc} {N : Nat → Prop} {w : World} {z : Nat} : ∀ {xs : List (List D)} {ws : List Value} {bs : List Nat} (k : Nat), RepEs β N w xs ws bs → (∀ x ∈ xs, x.length = z) →
    ∃ b1 b2, bs = b1 ++ b2 ∧ RepEs β N w (xs.take k) (ws.take (k * z)) b1 ∧ RepEs β N w (xs.drop k) (ws.drop (k * z)) b2
  | xs, ws, bs, 0, h, hz => ⟨[], bs, rfl, by simp [RepEs], by simpa using h⟩
  | [], ws, bs, k + 1, h, hz => by
    simp only [RepEs] at h
    rw [h.1, h.2]
    exact ⟨[], [], rfl, by simp [RepEs], by simp [RepEs]⟩
  | x :: xs, ws, bs, k + 1, h, hz => by
    simp only [RepEs] at h
    obtain ⟨w1, w2, b1, b2, rfl, rfl, h3, h4⟩ := h
    have hl := h3.length
    rw [hz x (by simp)] at hl
    obtain ⟨c1, c2, rfl, h5, h6⟩ := RepEs.cut k h4 (fun y hy => hz y (by simp [hy]))
    have e1 : (w1 ++ w2).drop ((k + 1) * z) = w2.drop (k * z) := by
      rw [Nat.add_mul, Nat.one_mul, List.drop_append, List.drop_of_length_le (by omega), List.nil_append]; congr 1; omega
    have e2 : (w1 ++ w2).take ((k + 1) * z) = w1 ++ w2.take (k * z) := by
      rw [Nat.add_mul, Nat.one_mul, List.take_append, List.take_of_length_le (by omega)]; congr 2; omega
    rw [e1, e2]
    refine ⟨b1 ++ c1, c2, by simp, ?_, by simpa using h6⟩
    simp only [List.take_succ_cons, RepEs]
    exact ⟨w1, _, b1, c1, rfl, rfl, h3, h5⟩

section
variable {Γ : Ctx} {ops : Array Oper} {o : Oper}

/-- A part of a row, and the row is used up. -/
theorem v_cut {c : Cert} {x : Operand} {T el : TypeId} {lo hi : Option Operand} {z n l h t t' : Nat} {xs : List (List D)} (hg : o.guard = none) (hop : o.op = .slice T x lo hi none)
    (hc : c = { tn := c.tn, hn := c.hn, out := some (.rf t' 0 (h - l) none), hx := [t], hw := [(t', .row z ((xs.drop l).take (h - l)))], fr := [t'] }) (hm : Γ.m ≤ t') (hx : OpF c x (.rf t 0 n none)) (hT : pureSem Γ.P (underlying T) = some (.slice el)) (hz : szOf Γ.P el = some z)
    (hl : BndF c lo 0 l) (hh : BndF c hi n h) (h1 : l ≤ h) (h2 : h ≤ n) (hnn : n = xs.length) (hh' : (t, .row z xs) ∈ c.hn) : Valid Γ ops o c := by
  intro σ a w Q hdst hn ⟨h0, β, bs, hr⟩
  have hwt : Region.wanted o (yielded ops a.tmps) = true := by simp [Region.wanted, hg]
  rw [if_pos hwt]
  have hfr : t' ∉ σ.us := hn.2.2 t' (by rw [hc]; simp)
  have h3 := OpF.rep hx hn hr
  obtain ⟨b1, b2, hp, ⟨hLz, hzz, hrow⟩, hrest⟩ := HRep.take hr.hp hr.keys (hn.2.1 _ hh')
  have hne : ∀ k, k ∈ σ.us → k ≠ t' := fun k hk e => hfr (e ▸ hk)
  have hkm : ∀ k, k < Γ.m → k ≠ t' := fun k hk e => by omega
  simp only [Rep] at h3
  obtain ⟨_, _, h3⟩ := h3
  have hfilt : σ.hp.filter (fun x => !c.hx.contains x.1) = σ.hp.filter (fun x => x.1 != t) := by
    rw [hc]; congr 1; funext x; by_cases hx : x.1 = t <;> simp [hx]
  have hrun : ∀ ad len cp, a.eval x = .slice ad len cp → n = len → n ≤ cp → (execOp a.eval o).run Γ.P w = .ok (.value (.slice (if cp = l then ad else ad.map (·.add (l * z))) (h - l) (cp - l))) w := by
    intro ad len cp he hlen hcp
    subst hlen
    refine exec_v (s := Instr.sliceAt T (a.eval x) (lo.map a.eval) (hi.map a.eval) none) (by simp [execOp, hop]) ?_
    rw [he]
    exact run_slice_slice hn hr hT hz hl hh h1 (by omega)
  rcases hrow with ⟨hnil, hxs, hb1⟩ | ⟨hnil, ws, hO, hE⟩
  · subst hxs
    subst hb1
    simp at hnn
    have hl0 : l = 0 := by omega
    have hh0 : h = 0 := by omega
    subst hl0 hh0 hnn
    have hv : a.eval x = .slice none 0 0 := by
      rcases h3 with ⟨_, _, _, h3⟩ | ⟨h3, _⟩
      · exact h3
      · rw [hnil] at h3; cases h3
    have hown : (β t).own = [] := by simp [Loc.own, hnil]
    rw [hown] at hp
    unfold Oper.wp
    rw [hrun _ _ _ hv rfl (Nat.le_refl _), Oper.upon_value]
    refine Rel.step (β1 := updB β t' ⟨true, 0, 0, z, 0⟩) (bk := b2) (br := []) (bn := []) h0 hr hdst (by rw [hc]; simp) (by rw [hc]; simpa using .inr hfr) (by simpa using hp) (by rw [hfilt]; exact hrest) (Nat.le_refl _) (fun _ _ _ => rfl)
      (fun k hk => by simp [updB, hne k hk]) (fun k hk => by simp [updB, hkm k hk]) (by simp) (by simp) ?_ ?_ ⟨rfl, rfl⟩
    · rw [hc]
      refine ⟨[], [], ?_, ?_, rfl⟩
      · simp [updB, Loc.own]
      · simp [updB, EntRep]
    · intro d hd
      rw [hc] at hd
      cases hd
      simp [Rep, updB]
  · have hv : ∃ c', a.eval x = .slice (some ⟨(β t).b, (β t).o, none⟩) n c' ∧ n ≤ c' ∧ c' * z ≤ (β t).r := by
      rcases h3 with ⟨h3, _⟩ | ⟨_, c', h3, h4, h5, _⟩
      · rw [hnil] at h3; cases h3
      · exact ⟨c', by simpa using h3, h4, by rw [← hLz]; simpa using h5⟩
    obtain ⟨cp, hv, hcp, hroom⟩ := hv
    have hown : (β t).own = [(β t).b] := by simp [Loc.own, hnil]
    rw [hown] at hp
    have hws := hE.length hzz
    obtain ⟨d1, d2, e1, hs1, hs2⟩ := hE.cut l hzz
    obtain ⟨d3, d4, e2, hs3, hs4⟩ := hs2.cut (h - l) (fun y hy => hzz y (List.mem_of_mem_drop hy))
    have hp2 : bs.Perm (((β t).b :: b1) ++ b2) := by simpa using hp
    have hnd := hp2.nodup_iff.1 hr.nodup
    have hsub : ∀ b ∈ d3, b ∈ b1 := fun b hb => by rw [e1, e2]; simp [hb]
    have hndn : ((β t).b :: d3).Nodup := by
      have q := (List.nodup_append.1 hnd).1
      rw [e1, e2] at q
      refine List.Nodup.sublist ?_ q
      refine List.Sublist.cons_cons _ ?_
      exact (List.sublist_append_left d3 d4).trans (List.sublist_append_right _ _)
    unfold Oper.wp
    rw [hrun _ _ _ hv rfl hcp, Oper.upon_value]
    have hNS : ∀ b, NS Γ w bs b → NS Γ w ((β t).b :: d3 ++ b2) b ∧ w.heap[b]? = w.heap[b]? := by
      rintro b ⟨u1, u2, u3⟩
      refine ⟨⟨u1, u2, fun hb => u3 (hp2.mem_iff.2 ?_)⟩, rfl⟩
      simp only [List.cons_append, List.mem_cons, List.mem_append] at hb ⊢
      rcases hb with rfl | hb | hb
      · exact .inl rfl
      · exact .inr (.inl (hsub b hb))
      · exact .inr (.inr hb)
    refine Rel.step (β1 := updB β t' ⟨false, (β t).b, if cp = l then (β t).o else (β t).o + l * z, z, (cp - l) * z⟩) (bk := b2) (br := (β t).b :: b1) (bn := (β t).b :: d3) h0 hr hdst (by rw [hc]; simp) (by rw [hc]; simpa using .inr hfr) hp2 (by rw [hfilt]; exact hrest) (Nat.le_refl _) (fun _ _ _ => rfl)
      (fun k hk => by simp [updB, hne k hk]) (fun k hk => by simp [updB, hkm k hk]) hndn ?_ ?_ ?_ ⟨rfl, rfl⟩
    · intro b hb
      have : b ∈ (β t).b :: b1 := by
        rcases List.mem_cons.1 hb with rfl | hb
        · simp
        · exact List.mem_cons_of_mem _ (hsub b hb)
      exact ⟨.inl this, (hr.own b (hp2.mem_iff.2 (List.mem_append_left _ this))).1⟩
    · rw [hc]
      refine ⟨d3, [], by simp [updB, Loc.own], ⟨by simp [updB], fun y hy => hzz y (List.mem_of_mem_drop (List.mem_of_mem_take hy)), .inr ⟨by simp [updB], (ws.drop (l * z)).take ((h - l) * z), ?_, ?_⟩⟩, rfl⟩
      · simp only [updB_self]
        obtain ⟨arr, e, lo', hi', u1, u2, u3, u4⟩ := hO
        have hmul : (cp - l) * z = cp * z - l * z := Nat.sub_mul _ _ _
        have hlc : l * z ≤ cp * z := Nat.mul_le_mul_right _ (by omega)
        refine ⟨arr, e, lo', hi', u1, u2, ?_, ?_⟩
        · split
          · rename_i hcl; rw [hcl]; simp; omega
          · omega
        · intro k hk
          simp only [List.length_take, List.length_drop] at hk
          have hkl : k < ws.length - l * z := by omega
          have hcl : cp ≠ l := by
            intro e; subst e
            have : ws.length = cp * z := by rw [hws, ← hnn]; congr 1; omega
            omega
          rw [if_neg hcl]
          have := u4 (l * z + k) (by omega)
          rw [Nat.add_assoc, this]
          simp
      · refine RepEs.frame (β' := updB β t' ⟨false, (β t).b, if cp = l then (β t).o else (β t).o + l * z, z, (cp - l) * z⟩) hNS _ _ _ (fun _ _ => rfl) hs3
    · intro d hd
      rw [hc] at hd
      cases hd
      simp only [Rep, updB_self]
      refine ⟨trivial, trivial, .inr ⟨trivial, cp - l, ?_, by omega, by simp, by simp⟩⟩
      simp only [Nat.zero_mul, Nat.add_zero]
      split
      · rfl
      · simp [add_none]

end
end Go.Im

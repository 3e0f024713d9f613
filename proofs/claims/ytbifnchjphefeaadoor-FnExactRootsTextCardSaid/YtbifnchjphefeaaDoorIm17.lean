import Derived.Test.YtbifnchjphefeaaDoorIm16
set_option linter.unusedVariables false
namespace Go.Im
open Go

variable {Γ : Ctx} {ops : Array Oper} {o : Oper}

/-! ### What leans on nothing that is stable -/
mutual
def D.flat : D → Prop
  | .sc _ => True
  | .s o _ _ xs => o = true ∧ flatE xs
  | .ag cs => flatC cs
  | .tu cs => flatC cs
  | _ => False
def flatC : List D → Prop
  | [] => True
  | d :: ds => d.flat ∧ flatC ds
def flatE : List (List D) → Prop
  | [] => True
  | e :: es => flatC e ∧ flatE es
end

section
variable {β β' : Nat → Loc} {N N' : Nat → Prop} {w w' : World}
mutual
theorem Rep.flat : ∀ (d : D) (top : Bool) (v : Value) (bs : List Nat), d.flat → (∀ b ∈ bs, w'.heap[b]? = w.heap[b]?) → Rep β N w top d v bs → Rep β' N' w' top d v bs
  | .sc u, top, v, bs, _, _, h => by simp only [Rep] at h ⊢; exact h
  | .s o z n xs, top, v, bs, hf, hb, h => by
    simp only [D.flat] at hf
    simp only [Rep] at h ⊢
    obtain ⟨h1, h2, a, cap, h3, h4, h5⟩ := h
    refine ⟨h1, h2, a, cap, h3, h4, ?_⟩
    rcases h5 with h5 | ⟨h5, _⟩ | ⟨h5, b, off, ws, bs', h6, h7, h8, h9⟩
    · exact .inl h5
    · rw [hf.1] at h5; cases h5
    · subst h7
      exact .inr (.inr ⟨h5, b, off, ws, bs', h6, rfl, h8.frame (hb b (by simp)), RepEs.flat xs ws bs' hf.2 (fun c hc => hb c (by simp [hc])) h9⟩)
  | .ag cs, top, v, bs, hf, hb, h => by
    simp only [D.flat] at hf
    simp only [Rep] at h ⊢
    obtain ⟨h1, ws, h2, h3, h4⟩ := h
    exact ⟨h1, ws, h2, h3, RepCs.flat cs true ws bs hf hb h4⟩
  | .tu cs, top, v, bs, hf, hb, h => by
    simp only [D.flat] at hf
    simp only [Rep] at h ⊢
    obtain ⟨h1, ws, h2, h4⟩ := h
    exact ⟨h1, ws, h2, RepCs.flat cs true ws bs hf hb h4⟩
  | .rf _ _ _ _, _, _, _, hf, _, _ => by simp [D.flat] at hf
  | .pt _ _ _, _, _, _, hf, _, _ => by simp [D.flat] at hf
  | .ps _, _, _, _, hf, _, _ => by simp [D.flat] at hf
  | .fn _ _, _, _, _, hf, _, _ => by simp [D.flat] at hf
  | .un, _, _, _, hf, _, _ => by simp [D.flat] at hf
  | .nb _, _, _, _, hf, _, _ => by simp [D.flat] at hf
  | .sub _ _ _, _, _, _, hf, _, _ => by simp [D.flat] at hf
  | .fb _ _, _, _, _, hf, _, _ => by simp [D.flat] at hf
theorem RepCs.flat : ∀ (ds : List D) (top : Bool) (ws : List Value) (bs : List Nat), flatC ds → (∀ b ∈ bs, w'.heap[b]? = w.heap[b]?) → RepCs β N w top ds ws bs → RepCs β' N' w' top ds ws bs
  | [], top, ws, bs, _, _, h => by simp only [RepCs] at h ⊢; exact h
  | d :: ds, top, ws, bs, hf, hb, h => by
    simp only [flatC] at hf
    simp only [RepCs] at h ⊢
    obtain ⟨v, vs, b1, b2, rfl, rfl, h3, h4⟩ := h
    exact ⟨v, vs, b1, b2, rfl, rfl, Rep.flat d top v b1 hf.1 (fun b hb' => hb b (by simp [hb'])) h3, RepCs.flat ds top vs b2 hf.2 (fun b hb' => hb b (by simp [hb'])) h4⟩
theorem RepEs.flat : ∀ (es : List (List D)) (ws : List Value) (bs : List Nat), flatE es → (∀ b ∈ bs, w'.heap[b]? = w.heap[b]?) → RepEs β N w es ws bs → RepEs β' N' w' es ws bs
  | [], ws, bs, _, _, h => by simp only [RepEs] at h ⊢; exact h
  | e :: es, ws, bs, hf, hb, h => by
    simp only [flatE] at hf
    simp only [RepEs] at h ⊢
    obtain ⟨w1, w2, b1, b2, rfl, rfl, h3, h4⟩ := h
    exact ⟨w1, w2, b1, b2, rfl, rfl, RepCs.flat e false w1 b1 hf.1 (fun b hb' => hb b (by simp [hb'])) h3, RepEs.flat es w2 b2 hf.2 (fun b hb' => hb b (by simp [hb'])) h4⟩
end
end

/-! ### Arguments -/
mutual
inductive Am (hn : List (Nat × Ent)) (ids : List Nat) : Bool → D → D → Prop where
  | same {bor : Bool} {d : D} : d.men = [] → Am hn ids bor d d
  | nil {bor : Bool} (ow : Bool) (z : Nat) : Am hn ids bor (.sc (.slice none 0 0)) (.s ow z 0 [])
  | rf {bor : Bool} {k t off n : Nat} {cap : Option Nat} : ids[k]? = some t → Am hn ids bor (.rf t off n cap) (.rf k off n cap)
  | pt {bor : Bool} {k t i j : Nat} : ids[k]? = some t → Am hn ids bor (.pt t i j) (.pt k i j)
  | bor {t off n z : Nat} {cap : Option Nat} {xs ys : List (List D)} : (t, .row z xs) ∈ hn → t ∉ ids → off + n ≤ xs.length → ys = ((D.ro.roE xs).drop off).take n → Am hn ids true (.rf t off n cap) (.s false z n ys)
  | bors {t off n z : Nat} {xs ys : List (List D)} : (t, .row z xs) ∈ hn → t ∉ ids → off + n ≤ xs.length → ys = ((D.ro.roE xs).drop off).take n → Am hn ids true (.sub t off n) (.s false z n ys)
  | fb {bor : Bool} {f : FuncId} {cs cs' : List D} : AmL hn ids bor cs cs' → Am hn ids bor (.fb f cs) (.fb f cs')
  | fn {bor : Bool} {f : FuncId} {cs cs' : List D} : AmL hn ids bor cs cs' → Am hn ids bor (.fn f cs) (.fn f cs')
  | ag {bor : Bool} {cs cs' : List D} : AmL hn ids bor cs cs' → Am hn ids bor (.ag cs) (.ag cs')
inductive AmL (hn : List (Nat × Ent)) (ids : List Nat) : Bool → List D → List D → Prop where
  | nil {bor : Bool} : AmL hn ids bor [] []
  | cons {bor : Bool} {d d' : D} {ds ds' : List D} : Am hn ids bor d d' → AmL hn ids bor ds ds' → AmL hn ids bor (d :: ds) (d' :: ds')
end

section
variable {β β' : Nat → Loc} {N N0 : Nat → Prop} {w : World} {hn hpk : List (Nat × Ent)} {ids bk : List Nat}

mutual
theorem Am.rep (hk : HRep β N w hpk bk) (hh : ∀ x ∈ hn, x.1 ∉ ids → x ∈ hpk) (hN : ∀ b, N b → N0 b) (hβ : ∀ k t, ids[k]? = some t → β' k = β t) {bor : Bool} (hbk : bor = true → ∀ b ∈ bk, N0 b) :
    ∀ {d d' : D} {v : Value}, Am hn ids bor d d' → Rep β N w true d v [] → Rep β' N0 w true d' v []
  | d, _, v, .same hm, h => Rep.frame (fun b hb => ⟨hN b hb, rfl⟩) d true v [] (by simp) (by simp [hm]) h
  | _, _, v, .nil ow z, h => by
    simp only [Rep] at h
    obtain ⟨rfl, _⟩ := h
    simp only [Rep]
    exact ⟨rfl, by simp, none, 0, rfl, Nat.le_refl _, .inl ⟨trivial, trivial, fun _ => ⟨rfl, rfl⟩⟩⟩
  | _, _, v, .rf hi, h => by simp only [Rep] at h ⊢; rw [hβ _ _ hi]; exact h
  | _, _, v, .pt hi, h => by simp only [Rep] at h ⊢; rw [hβ _ _ hi]; exact h
  | .rf t off n cap, .s _ z _ ys, v, .bor (xs := xs) hm ht hle hys, h => by
    obtain ⟨b1, ⟨hLz, hzz, hrow⟩, hb1, hb2⟩ := HRep.get hk (hh _ hm ht)
    simp only [Rep] at h
    obtain ⟨_, _, h⟩ := h
    simp only [Rep]
    have hl : ys.length = n := by rw [hys]; simp [roE_length]; omega
    have hz : ∀ e ∈ ys, e.length = z := fun e he => by
      rw [hys] at he
      obtain ⟨e', he', rfl⟩ := roE_mem (List.mem_of_mem_drop (List.mem_of_mem_take he))
      rw [roC_length]; exact hzz e' he'
    refine ⟨hl, hz, ?_⟩
    rcases h with ⟨hnil, _, hn0, rfl⟩ | ⟨hnil, cp, rfl, hcap, hroom, _⟩
    · exact ⟨none, 0, by rw [hn0], by omega, .inl ⟨hn0, trivial, by simp⟩⟩
    · refine ⟨_, cp, rfl, hcap, ?_⟩
      rcases hrow with ⟨hnil', _⟩ | ⟨_, ws, hO, hE⟩
      · rw [hnil] at hnil'; cases hnil'
      · have q := RepEs.ro (β' := β') (N' := N0) hN xs ws b1 (fun b hb => hbk rfl b (hb2 b hb)) hE
        have hzr : ∀ e ∈ D.ro.roE xs, e.length = z := fun e he => by
          obtain ⟨e', he', rfl⟩ := roE_mem he
          rw [roC_length]; exact hzz e' he'
        have q2 := (RepEs.sub n (RepEs.sub off q hzr).2 (fun e he => hzr e (List.mem_of_mem_drop he))).1
        refine .inr (.inl ⟨trivial, (β t).b, _, _, rfl, hbk rfl _ (hb1 _ (by simp [Loc.own, hnil])), ?_, hys ▸ q2, trivial⟩)
        rw [hLz]
        exact hO.has.sub (off * z) (n * z)
  | .sub t off n, .s _ z _ ys, v, .bors (xs := xs) hm ht hle hys, h => by
    obtain ⟨b1, ⟨hLz, hzz, hrow⟩, hb1, hb2⟩ := HRep.get hk (hh _ hm ht)
    simp only [Rep] at h
    obtain ⟨_, _, ad, cp, rfl, hcap, h⟩ := h
    simp only [Rep]
    have hl : ys.length = n := by rw [hys]; simp [roE_length]; omega
    have hz : ∀ e ∈ ys, e.length = z := fun e he => by
      rw [hys] at he
      obtain ⟨e', he', rfl⟩ := roE_mem (List.mem_of_mem_drop (List.mem_of_mem_take he))
      rw [roC_length]; exact hzz e' he'
    refine ⟨hl, hz, ad, cp, rfl, hcap, ?_⟩
    rcases h with hn0 | ⟨hnil, rfl, hroom⟩
    · exact .inl ⟨hn0, trivial, by simp⟩
    · rcases hrow with ⟨hnil', _⟩ | ⟨_, ws, hO, hE⟩
      · rw [hnil] at hnil'; cases hnil'
      · have q := RepEs.ro (β' := β') (N' := N0) hN xs ws b1 (fun b hb => hbk rfl b (hb2 b hb)) hE
        have hzr : ∀ e ∈ D.ro.roE xs, e.length = z := fun e he => by
          obtain ⟨e', he', rfl⟩ := roE_mem he
          rw [roC_length]; exact hzz e' he'
        have q2 := (RepEs.sub n (RepEs.sub off q hzr).2 (fun e he => hzr e (List.mem_of_mem_drop he))).1
        refine .inr (.inl ⟨trivial, (β t).b, _, _, rfl, hbk rfl _ (hb1 _ (by simp [Loc.own, hnil])), ?_, hys ▸ q2, trivial⟩)
        rw [hLz]
        exact hO.has.sub (off * z) (n * z)
  | _, _, v, .fb hl, h => by
    simp only [Rep] at h ⊢
    obtain ⟨h1, h2, ws, h3, h4⟩ := h
    exact ⟨trivial, trivial, ws, h3, AmL.rep hk hh hN hβ hbk hl h4⟩
  | _, _, v, .fn hl, h => by
    simp only [Rep] at h ⊢
    obtain ⟨h1, h2, ws, h3, h4⟩ := h
    exact ⟨trivial, trivial, ws, h3, AmL.rep hk hh hN hβ hbk hl h4⟩
  | _, _, v, .ag hl, h => by
    simp only [Rep] at h ⊢
    obtain ⟨h1, ws, h3, h5, h4⟩ := h
    exact ⟨trivial, ws, h3, h5, AmL.rep hk hh hN hβ hbk hl h4⟩
theorem AmL.rep (hk : HRep β N w hpk bk) (hh : ∀ x ∈ hn, x.1 ∉ ids → x ∈ hpk) (hN : ∀ b, N b → N0 b) (hβ : ∀ k t, ids[k]? = some t → β' k = β t) {bor : Bool} (hbk : bor = true → ∀ b ∈ bk, N0 b) :
    ∀ {ds ds' : List D} {vs : List Value}, AmL hn ids bor ds ds' → RepCs β N w true ds vs [] → RepCs β' N0 w true ds' vs []
  | _, _, vs, .nil, h => by simp only [RepCs] at h ⊢; exact h
  | _, _, vs, .cons h1 h2, h => by
    simp only [RepCs] at h ⊢
    obtain ⟨v, vs', b1, b2, rfl, hb, h3, h4⟩ := h
    rw [(List.append_eq_nil_iff.1 hb.symm).1] at h3
    rw [(List.append_eq_nil_iff.1 hb.symm).2] at h4
    exact ⟨v, vs', [], [], rfl, rfl, Am.rep hk hh hN hβ hbk h1 h3, AmL.rep hk hh hN hβ hbk h2 h4⟩
end
end

/-! ### Results -/
mutual
inductive Nm : D → D → List (Nat × Ent) → Prop where
  | same {d : D} : d.men = [] → d.free = true → Nm d d []
  | own {z n : Nat} {xs : List (List D)} (t : Nat) : Nm (.s true z n xs) (.rf t 0 n none) [(t, .row z xs)]
  | ag {cs cs' : List D} {es : List (Nat × Ent)} : NmL cs cs' es → Nm (.ag cs) (.ag cs') es
  | tu {cs cs' : List D} {es : List (Nat × Ent)} : NmL cs cs' es → Nm (.tu cs) (.tu cs') es
inductive NmL : List D → List D → List (Nat × Ent) → Prop where
  | nil : NmL [] [] []
  | cons {d d' : D} {ds ds' : List D} {e1 e2 : List (Nat × Ent)} : Nm d d' e1 → NmL ds ds' e2 → NmL (d :: ds) (d' :: ds') (e1 ++ e2)
end

mutual
theorem Nm.men : ∀ {d d' : D} {es : List (Nat × Ent)}, Nm d d' es → (∀ t ∈ d'.men, t ∈ es.map (·.1)) ∧ (∀ x ∈ es, x.2.men = [])
  | _, _, _, .same hm _ => by simp [hm]
  | _, _, _, .own t => by simp [D.men, Ent.men]
  | _, _, _, .ag h => by simpa [D.men] using NmL.men h
  | _, _, _, .tu h => by simpa [D.men] using NmL.men h
theorem NmL.men : ∀ {d d' : List D} {es : List (Nat × Ent)}, NmL d d' es → (∀ t ∈ D.men.menL d', t ∈ es.map (·.1)) ∧ (∀ x ∈ es, x.2.men = [])
  | _, _, _, .nil => by simp [D.men.menL]
  | _, _, _, .cons h1 h2 => by
    have q1 := Nm.men h1
    have q2 := NmL.men h2
    refine ⟨fun t ht => ?_, fun x hx => ?_⟩
    · simp only [D.men.menL, List.mem_append] at ht
      simp only [List.map_append, List.mem_append]
      rcases ht with ht | ht
      · exact .inl (q1.1 t ht)
      · exact .inr (q2.1 t ht)
    · rcases List.mem_append.1 hx with hx | hx
      · exact q1.2 x hx
      · exact q2.2 x hx
end

theorem HRep.app {β : Nat → Loc} {N : Nat → Prop} {w : World} : ∀ {h1 h2 : List (Nat × Ent)} {b1 b2 : List Nat}, HRep β N w h1 b1 → HRep β N w h2 b2 → HRep β N w (h1 ++ h2) (b1 ++ b2)
  | [], h2, b1, b2, q1, q2 => by simp only [HRep] at q1; subst q1; simpa using q2
  | (t, e) :: h1, h2, b1, b2, q1, q2 => by
    obtain ⟨c1, c2, rfl, q3, q4⟩ := q1
    exact ⟨c1, c2 ++ b2, by simp, q3, q4.app q2⟩

section
variable {β' : Nat → Loc} {N : Nat → Prop} {w : World}
mutual
theorem Nm.rep : ∀ {d d' : D} {es : List (Nat × Ent)} {v : Value} {bs : List Nat} (β : Nat → Loc), Nm d d' es → (es.map (·.1)).Nodup → Rep β' N w true d v bs →
    ∃ β1, (∀ t, t ∉ es.map (·.1) → β1 t = β t) ∧ Rep β1 N w true d' v [] ∧ HRep β1 N w es bs
  | d, _, _, v, bs, β, .same hm hf, _, h => by
    have e := Rep.free hf h
    subst e
    exact ⟨β, fun _ _ => rfl, Rep.frame (fun b hb => ⟨hb, rfl⟩) d true v [] (by simp) (by simp [hm]) h, rfl⟩
  | .s _ z n xs, _, _, v, bs, β, .own t, _, h => by
    simp only [Rep] at h
    obtain ⟨h1, h2, a, cap, rfl, h4, h5⟩ := h
    rcases h5 with ⟨h5, rfl, h6⟩ | h5 | ⟨_, b, off, ws, bs', rfl, rfl, h8, h9⟩
    · obtain ⟨rfl, rfl⟩ := h6 trivial
      refine ⟨updB β t ⟨true, 0, 0, z, 0⟩, fun k hk => updB_ne (by simpa using hk), ?_, ?_⟩
      · simp only [Rep, updB_self]
        exact ⟨trivial, trivial, .inl ⟨trivial, trivial, h5, by rw [h5]⟩⟩
      · refine ⟨[], [], by simp [updB_self, Loc.own], ?_, rfl⟩
        rw [updB_self]
        exact ⟨rfl, h2, .inl ⟨rfl, List.length_eq_zero_iff.1 (by omega), rfl⟩⟩
    · exact absurd h5.1 (by simp)
    · refine ⟨updB β t ⟨false, b, off, z, cap * z⟩, fun k hk => updB_ne (by simpa using hk), ?_, ?_⟩
      · simp only [Rep, updB_self]
        exact ⟨trivial, trivial, .inr ⟨trivial, cap, by simp, h4, by simp, by simp⟩⟩
      · refine ⟨bs', [], by simp [updB_self, Loc.own], ?_, rfl⟩
        rw [updB_self]
        exact ⟨rfl, h2, .inr ⟨rfl, ws, h8, RepEs.frame (fun b hb => ⟨hb, rfl⟩) xs ws bs' (fun _ _ => rfl) h9⟩⟩
  | .ag _, _, _, v, bs, β, .ag hl, hk, h => by
    simp only [Rep] at h
    obtain ⟨h1, ws, h2, h3, h4⟩ := h
    obtain ⟨β1, q1, q2, q3⟩ := NmL.rep β hl hk h4
    exact ⟨β1, q1, by simp only [Rep]; exact ⟨trivial, ws, h2, h3, q2⟩, q3⟩
  | .tu _, _, _, v, bs, β, .tu hl, hk, h => by
    simp only [Rep] at h
    obtain ⟨h1, ws, h2, h4⟩ := h
    obtain ⟨β1, q1, q2, q3⟩ := NmL.rep β hl hk h4
    exact ⟨β1, q1, by simp only [Rep]; exact ⟨trivial, ws, h2, q2⟩, q3⟩
theorem NmL.rep : ∀ {d d' : List D} {es : List (Nat × Ent)} {vs : List Value} {bs : List Nat} (β : Nat → Loc), NmL d d' es → (es.map (·.1)).Nodup → RepCs β' N w true d vs bs →
    ∃ β1, (∀ t, t ∉ es.map (·.1) → β1 t = β t) ∧ RepCs β1 N w true d' vs [] ∧ HRep β1 N w es bs
  | _, _, _, vs, bs, β, .nil, _, h => by
    simp only [RepCs] at h
    obtain ⟨rfl, rfl⟩ := h
    exact ⟨β, fun _ _ => rfl, by simp [RepCs], rfl⟩
  | _, _, _, vs, bs, β, .cons (d' := d') (ds' := ds') (e1 := e1) (e2 := e2) h1 h2, hk, h => by
    simp only [RepCs] at h
    obtain ⟨v, vs', b1, b2, rfl, rfl, h3, h4⟩ := h
    simp only [List.map_append] at hk
    have hk' := List.nodup_append.1 hk
    obtain ⟨β1, q1, q2, q3⟩ := Nm.rep β h1 hk'.1 h3
    obtain ⟨β2, q4, q5, q6⟩ := NmL.rep β1 h2 hk'.2.1 h4
    have hagree : ∀ t ∈ e1.map (·.1), β2 t = β1 t := fun t ht => q4 t (fun ht' => hk'.2.2 t ht t ht' rfl)
    refine ⟨β2, fun t ht => ?_, ?_, ?_⟩
    · simp only [List.map_append, List.mem_append, not_or] at ht
      rw [q4 t ht.2, q1 t ht.1]
    · simp only [RepCs]
      refine ⟨v, vs', [], [], rfl, rfl, ?_, q5⟩
      exact Rep.frame (fun b hb => ⟨hb, rfl⟩) d' true v [] (by simp) (fun t ht => hagree t ((Nm.men h1).1 t ht)) q2
    · refine HRep.app ?_ q6
      refine HRep.frame (fun b hb => ⟨hb, rfl⟩) _ _ (fun _ _ => rfl) (fun t ht => hagree t ?_) q3
      obtain ⟨x, hx1, hx2⟩ := List.mem_flatMap.1 ht
      rw [(Nm.men h1).2 x hx1] at hx2
      simp at hx2
      subst hx2
      exact List.mem_map.2 ⟨x, hx1, rfl⟩
end
end

end Go.Im

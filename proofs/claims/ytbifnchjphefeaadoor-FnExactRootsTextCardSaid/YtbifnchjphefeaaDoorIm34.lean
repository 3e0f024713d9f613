import Derived.Test.YtbifnchjphefeaaDoorIm33
set_option linter.unusedVariables false
namespace Go.Im
open Go

/-! ### What is owned is only read from here on -/
section
variable {Γ : Ctx} {fc : Code} {k : List II} {σ : St} {T : Type} {K : T → Option (D × List Ent)}

mutual
inductive Fz (t z : Nat) (xs : List (List D)) : D → D → Prop where
  | same {d : D} : d.men = [] → Fz t z xs d d
  | keep {d : D} : d.men.contains t = false → Fz t z xs d d
  | rf {off n : Nat} {cap : Option Nat} {ys : List (List D)} : off + n ≤ xs.length → ys = ((D.ro.roE xs).drop off).take n → Fz t z xs (.rf t off n cap) (.s false z n ys)
  | fn {f : FuncId} {cs cs' : List D} : FzL t z xs cs cs' → Fz t z xs (.fn f cs) (.fn f cs')
  | ag {cs cs' : List D} : FzL t z xs cs cs' → Fz t z xs (.ag cs) (.ag cs')
  | tu {cs cs' : List D} : FzL t z xs cs cs' → Fz t z xs (.tu cs) (.tu cs')
inductive FzL (t z : Nat) (xs : List (List D)) : List D → List D → Prop where
  | nil : FzL t z xs [] []
  | cons {d d' : D} {ds ds' : List D} : Fz t z xs d d' → FzL t z xs ds ds' → FzL t z xs (d :: ds) (d' :: ds')
end

mutual
theorem Fz.men {t z : Nat} {xs : List (List D)} : ∀ {d d' : D}, Fz t z xs d d' → ∀ q ∈ d'.men, q ∈ d.men ∧ q ≠ t
  | d, _, .same h => by rw [h]; simp
  | d, _, .keep h => fun q hq => ⟨hq, fun e => by subst e; simp at h; exact h hq⟩
  | _, _, .rf _ _ => by simp [D.men]
  | _, _, .fn h => by simpa [D.men] using FzL.men h
  | _, _, .ag h => by simpa [D.men] using FzL.men h
  | _, _, .tu h => by simpa [D.men] using FzL.men h
theorem FzL.men {t z : Nat} {xs : List (List D)} : ∀ {d d' : List D}, FzL t z xs d d' → ∀ q ∈ D.men.menL d', q ∈ D.men.menL d ∧ q ≠ t
  | _, _, .nil => by simp [D.men.menL]
  | _, _, .cons h1 h2 => fun q hq => by
    simp only [D.men.menL, List.mem_append] at hq ⊢
    rcases hq with hq | hq
    · exact ⟨.inl (Fz.men h1 q hq).1, (Fz.men h1 q hq).2⟩
    · exact ⟨.inr (FzL.men h2 q hq).1, (FzL.men h2 q hq).2⟩
end

theorem FzL.length {t z : Nat} {xs : List (List D)} : ∀ {d d' : List D}, FzL t z xs d d' → d'.length = d.length
  | _, _, .nil => rfl
  | _, _, .cons _ h2 => by simp [FzL.length h2]

section
variable {β : Nat → Loc} {N N' : Nat → Prop} {w : World} {t z : Nat} {xs : List (List D)}
mutual
theorem Fz.rep (hN : ∀ b, N b → N' b) {b1 : List Nat} (hE : EntRep β N w (β t) b1 (.row z xs)) (hb : ∀ b ∈ (β t).own ++ b1, N' b) : ∀ {d d' : D} {v : Value}, Fz t z xs d d' → Rep β N w true d v [] → Rep β N' w true d' v []
  | d, _, v, .same hm, h => Rep.frame (fun b hb => ⟨hN b hb, rfl⟩) d true v [] (by simp) (fun _ _ => rfl) h
  | d, _, v, .keep hm, h => Rep.frame (fun b hb => ⟨hN b hb, rfl⟩) d true v [] (by simp) (fun _ _ => rfl) h
  | .rf _ off n cap, .s _ _ _ ys, v, .rf hle hys, h => by
    obtain ⟨hLz, hzz, hrow⟩ := hE
    simp only [Rep] at h
    obtain ⟨_, _, h⟩ := h
    simp only [Rep]
    have hl : ys.length = n := by rw [hys]; simp [roE_length]; omega
    have hz : ∀ e ∈ ys, e.length = z := fun e he => by
      rw [hys] at he
      obtain ⟨e', he', rfl⟩ := roE_mem (List.mem_of_mem_drop (List.mem_of_mem_take he))
      rw [roC_length]; exact hzz e' he'
    refine ⟨hl, hz, ?_⟩
    rcases h with ⟨hnil, _, hn0, rfl⟩ | ⟨hnil, cp, rfl, hcap, hroom, _⟩
    · exact ⟨none, 0, by rw [hn0], by omega, .inl ⟨hn0, trivial, by simp⟩⟩
    · refine ⟨_, cp, rfl, hcap, ?_⟩
      rcases hrow with ⟨hnil', _⟩ | ⟨_, ws, hO, hE⟩
      · rw [hnil] at hnil'; cases hnil'
      · have q := RepEs.ro (β' := β) (N' := N') hN xs ws b1 (fun b hb' => hb b (List.mem_append_right _ hb')) hE
        have hzr : ∀ e ∈ D.ro.roE xs, e.length = z := fun e he => by
          obtain ⟨e', he', rfl⟩ := roE_mem he
          rw [roC_length]; exact hzz e' he'
        have q2 := (RepEs.sub n (RepEs.sub off q hzr).2 (fun e he => hzr e (List.mem_of_mem_drop he))).1
        refine .inr (.inl ⟨trivial, (β t).b, _, _, rfl, hb _ (by simp [Loc.own, hnil]), ?_, hys ▸ q2, trivial⟩)
        rw [hLz]
        exact hO.has.sub (off * z) (n * z)
  | _, _, v, .fn hl, h => by
    simp only [Rep] at h ⊢
    obtain ⟨h1, h2, ws, h3, h4⟩ := h
    exact ⟨trivial, trivial, ws, h3, FzL.rep hN hE hb hl h4⟩
  | _, _, v, .ag hl, h => by
    simp only [Rep] at h ⊢
    obtain ⟨h1, ws, h3, h5, h4⟩ := h
    exact ⟨trivial, ws, h3, h5, FzL.rep hN hE hb hl h4⟩
  | _, _, v, .tu hl, h => by
    simp only [Rep] at h ⊢
    obtain ⟨h1, ws, h3, h4⟩ := h
    exact ⟨trivial, ws, h3, FzL.rep hN hE hb hl h4⟩
theorem FzL.rep (hN : ∀ b, N b → N' b) {b1 : List Nat} (hE : EntRep β N w (β t) b1 (.row z xs)) (hb : ∀ b ∈ (β t).own ++ b1, N' b) : ∀ {ds ds' : List D} {vs : List Value}, FzL t z xs ds ds' → RepCs β N w true ds vs [] → RepCs β N' w true ds' vs []
  | _, _, vs, .nil, h => by simp only [RepCs] at h ⊢; exact h
  | _, _, vs, .cons h1 h2, h => by
    simp only [RepCs] at h ⊢
    obtain ⟨v, vs', b1, b2, rfl, hb', h3, h4⟩ := h
    rw [(List.append_eq_nil_iff.1 hb'.symm).1] at h3
    rw [(List.append_eq_nil_iff.1 hb'.symm).2] at h4
    exact ⟨v, vs', [], [], rfl, rfl, Fz.rep hN hE hb h1 h3, FzL.rep hN hE hb h2 h4⟩
end
end

/-- The temporaries, then. -/
inductive FzT (t z : Nat) (xs : List (List D)) : List (Nat × D) → List (Nat × D) → Prop where
  | nil : FzT t z xs [] []
  | cons {q : Nat} {d d' : D} {l l' : List (Nat × D)} : Fz t z xs d d' → FzT t z xs l l' → FzT t z xs ((q, d) :: l) ((q, d') :: l')

inductive FzH (t z : Nat) (xs : List (List D)) : List (Nat × Ent) → List (Nat × Ent) → Prop where
  | nil : FzH t z xs [] []
  | box {q : Nat} {cs cs' : List D} {l l' : List (Nat × Ent)} : cs.all D.free = true → FzL t z xs cs cs' → FzH t z xs l l' → FzH t z xs ((q, .box cs) :: l) ((q, .box cs') :: l')
  | keep {q : Nat} {e : Ent} {l l' : List (Nat × Ent)} : e.men.contains t = false → FzH t z xs l l' → FzH t z xs ((q, e) :: l) ((q, e) :: l')

theorem FzT.mem {t z : Nat} {xs : List (List D)} {l l' : List (Nat × D)} (h : FzT t z xs l l') : ∀ {q : Nat} {d' : D}, (q, d') ∈ l' → ∃ d, (q, d) ∈ l ∧ Fz t z xs d d' := by
  induction h with
  | nil => intro q d' h; cases h
  | cons h1 _ ih =>
    intro q d' h
    rcases List.mem_cons.1 h with h | h
    · cases h; exact ⟨_, by simp, h1⟩
    · obtain ⟨d, h3, h4⟩ := ih h; exact ⟨d, by simp [h3], h4⟩

theorem FzH.keys {t z : Nat} {xs : List (List D)} {l l' : List (Nat × Ent)} (h : FzH t z xs l l') : l'.map (·.1) = l.map (·.1) := by
  induction h with
  | nil => rfl
  | box _ _ _ ih => simp [ih]
  | keep _ _ ih => simp [ih]

theorem FzH.menH {t z : Nat} {xs : List (List D)} {l l' : List (Nat × Ent)} (h : FzH t z xs l l') : ∀ q ∈ menH l', q ∈ menH l := by
  induction h with
  | nil => exact fun q h => h
  | box _ h1 _ ih =>
    intro q hq
    simp only [Im.menH, List.flatMap_cons, Ent.men, List.mem_append, List.mem_cons] at hq ⊢
    rcases hq with (hq | hq) | hq
    · exact .inl (.inl hq)
    · exact .inl (.inr (FzL.men h1 q hq).1)
    · exact .inr (ih q hq)
  | keep _ _ ih =>
    intro q hq
    simp only [Im.menH, List.flatMap_cons, List.mem_append, List.mem_cons] at hq ⊢
    rcases hq with hq | hq
    · exact .inl hq
    · exact .inr (ih q hq)

theorem FzH.rep {β : Nat → Loc} {N N' : Nat → Prop} {w : World} {t z : Nat} {xs : List (List D)} {l l' : List (Nat × Ent)} (h : FzH t z xs l l') (hN : ∀ b, N b → N' b) {b1 : List Nat} (hE : EntRep β N w (β t) b1 (.row z xs)) (hb : ∀ b ∈ (β t).own ++ b1, N' b) :
    ∀ {bs : List Nat}, HRep β N w l bs → HRep β N' w l' bs := by
  induction h with
  | nil => exact fun h => h
  | box hfree h1 _ ih =>
    rintro bs ⟨c1, c2, rfl, ⟨hn, hz, ws, hO, hone, hcs⟩, h3⟩
    have := RepCs.free hfree hcs
    subst this
    refine ⟨[], c2, rfl, ⟨hn, by rw [h1.length]; exact hz, ws, hO, hone, FzL.rep hN hE hb h1 hcs⟩, ih h3⟩
  | keep _ _ ih =>
    rintro bs ⟨c1, c2, rfl, h2, h3⟩
    exact ⟨c1, c2, rfl, h2.frame (fun b hb => ⟨hN b hb, rfl⟩) (fun _ _ => rfl) (fun _ => rfl) (fun _ _ => rfl), ih h3⟩

theorem J_frz {e : Option T} (t : Nat) {z : Nat} {xs : List (List D)} {tm1 tm2 : List (Nat × D)} {hp1 hp2 : List (Nat × Ent)} (htm : FzT t z xs tm1 tm2) (hhp : FzH t z xs hp1 hp2) (ht : (hp1.map (·.1)).contains t = false)
    (hj : J Γ fc k (St.mk' tm2 hp2) e K) : J Γ fc k (St.mk' tm1 ((t, .row z xs) :: hp1)) e K := by
  refine J_weak (fun a w hr => ?_) hj
  obtain ⟨h0, β, bs, h⟩ := hr
  obtain ⟨b1, bk, rfl, hE, hrest⟩ := h.hp
  have hp : ((β t).own ++ (b1 ++ bk)).Perm (((β t).own ++ b1) ++ bk) := by rw [List.append_assoc]
  have hnd := hp.nodup_iff.1 h.nodup
  have hN : ∀ b, NS Γ w ((β t).own ++ (b1 ++ bk)) b → NS Γ w bk b := fun b hb => NS.sub (fun x hx => by simp [hx]) hb
  have hb : ∀ b ∈ (β t).own ++ b1, NS Γ w bk b := fun b hb => by
    have := h.own b (hp.mem_iff.2 (List.mem_append_left _ hb))
    refine ⟨?_, this.1, fun hbk => (List.nodup_append.1 hnd).2.2 b hb b hbk rfl⟩
    rcases this.2 with h1 | h1
    · exact .inr (.inl h1)
    · exact .inr (.inr h1)
  refine ⟨?_, β, bk, { defers := h.defers, size := h.size, keys := ?_, par := h.par, grow := h.grow, gh := h.gh, quiet := h.quiet, keep := h.keep, hp := hhp.rep hN hE hb hrest, nodup := (List.nodup_append.1 hnd).2.1, own := fun b hb => h.own b (hp.mem_iff.2 (List.mem_append_right _ hb)), tm := ?_ }⟩
  · intro q hq
    simp only [St.mk', List.mem_append]
    exact hq
  · have hk := h.keys
    simp only [St.mk', List.map_cons, List.nodup_cons] at hk
    simp only [St.mk']
    rw [hhp.keys]
    exact hk.2
  · intro q d' hd
    obtain ⟨d, h1, h2⟩ := htm.mem hd
    obtain ⟨v, h3, h4⟩ := h.tm q d h1
    exact ⟨v, h3, Fz.rep hN hE hb h2 h4⟩
end
end Go.Im

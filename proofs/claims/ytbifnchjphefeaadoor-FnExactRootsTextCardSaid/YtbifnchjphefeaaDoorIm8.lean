import Derived.Test.YtbifnchjphefeaaDoorIm7
set_option linter.unusedVariables false
namespace Go.Im
open Go

theorem HRep.front {β : Nat → Loc} {N : Nat → Prop} {w : World} {hp : List (Nat × Ent)} {bs : List Nat} {t : Nat} {e : Ent} (h : HRep β N w hp bs) (hm : (t, e) ∈ hp) :
    ∃ l1 l2 b1 b2, hp = l1 ++ (t, e) :: l2 ∧ bs.Perm ((β t).own ++ (b1 ++ b2)) ∧ EntRep β N w (β t) b1 e ∧ HRep β N w (l1 ++ l2) b2 := by
  obtain ⟨l1, l2, rfl⟩ := List.append_of_mem hm
  obtain ⟨bs', p, b1, b2, rfl, h2, h3⟩ := HRep.perm (List.perm_middle (l₁ := l1) (a := (t, e)) (l₂ := l2)) h
  exact ⟨l1, l2, b1, b2, rfl, p, h2, h3⟩

/-- An entry taken out. -/
theorem HRep.take {β : Nat → Loc} {N : Nat → Prop} {w : World} {hp : List (Nat × Ent)} {bs : List Nat} {t : Nat} {e : Ent} (h : HRep β N w hp bs) (hk : (hp.map (·.1)).Nodup) (hm : (t, e) ∈ hp) :
    ∃ b1 b2, bs.Perm ((β t).own ++ (b1 ++ b2)) ∧ EntRep β N w (β t) b1 e ∧ HRep β N w (hp.filter (fun x => x.1 != t)) b2 := by
  obtain ⟨l1, l2, b1, b2, rfl, p, h2, h3⟩ := h.front hm
  refine ⟨b1, b2, p, h2, ?_⟩
  simp only [List.map_append, List.map_cons] at hk
  have hk' := List.nodup_append.1 hk
  have e1 : l1.filter (fun x => x.1 != t) = l1 := List.filter_eq_self.2 fun x hx => by
    simp only [bne_iff_ne, ne_eq]
    intro e
    exact hk'.2.2 t (List.mem_map.2 ⟨x, hx, e⟩) t (by simp) rfl
  have e2 : l2.filter (fun x => x.1 != t) = l2 := List.filter_eq_self.2 fun x hx => by
    simp only [bne_iff_ne, ne_eq]
    intro e
    exact (List.nodup_cons.1 hk'.2.1).1 (List.mem_map.2 ⟨x, hx, e⟩)
  have : (l1 ++ (t, e) :: l2).filter (fun x => x.1 != t) = l1 ++ l2 := by
    simp [List.filter_append, e1, e2]
  rw [this]
  exact h3

def updB (β : Nat → Loc) (t : Nat) (L : Loc) (k : Nat) : Loc := if k = t then L else β k

theorem updB_self {β : Nat → Loc} {t : Nat} {L : Loc} : updB β t L t = L := by simp [updB]
theorem updB_ne {β : Nat → Loc} {t k : Nat} {L : Loc} (h : k ≠ t) : updB β t L k = β k := by simp [updB, h]

/-- The general step. -/
theorem Rel.step {Γ : Ctx} {β β1 : Nat → Loc} {bs bk br bn : List Nat} {σ : St} {a : Act} {w w1 : World} {dst : Option Nat} {c : Cert} {v : Value}
    (h0 : ∀ t, t ∈ menT σ.tm ∨ t ∈ menH σ.hp → t ∈ σ.us) (h : RelB Γ β bs σ a w) (hd : ∀ t, dst = some t → t < Γ.nt)
    (hkk : (c.hw.map (·.1)).Nodup) (hkx : ∀ x ∈ c.hw, x.1 ∈ c.hx ∨ x.1 ∉ σ.us) (hp : bs.Perm (br ++ bk)) (hk : HRep β (NS Γ w bs) w (σ.hp.filter (fun x => !c.hx.contains x.1)) bk)
    (hsz : w.heap.size ≤ w1.heap.size) (hsame : ∀ b, b < w.heap.size → b ∉ br → w1.heap[b]? = w.heap[b]?)
    (hβ : ∀ t, t ∈ σ.us → β1 t = β t) (hβm : ∀ t, t < Γ.m → β1 t = β t)
    (hbn : bn.Nodup) (hbn' : ∀ b ∈ bn, (b ∈ br ∨ w.heap.size ≤ b) ∧ b < w1.heap.size)
    (hw : HRep β1 (NS Γ w1 (bn ++ bk)) w1 c.hw bn) (ho : ∀ d, c.out = some d → Rep β1 (NS Γ w1 (bn ++ bk)) w1 true d v []) (hq : w1.os = w.os ∧ w1.output = w.output) : Rel Γ (σ.upd dst c) (a.put dst v) w1 := by
  have hlt : ∀ b ∈ bs, b < w.heap.size := fun b hb => (h.own b hb).1
  have hnd := hp.nodup_iff.1 h.nodup
  have hbk : ∀ b ∈ bk, b ∈ bs := fun b hb => hp.mem_iff.2 (by simp [hb])
  have hbr : ∀ b ∈ br, b ∈ bs := fun b hb => hp.mem_iff.2 (by simp [hb])
  have hdis : ∀ b ∈ bk, b ∉ br := fun b hb hb' => (List.nodup_append.1 hnd).2.2 b hb' b hb rfl
  have hN : ∀ b, NS Γ w bs b → NS Γ w1 (bn ++ bk) b ∧ w1.heap[b]? = w.heap[b]? := by
    rintro b ⟨h1, h2, h3⟩
    refine ⟨⟨h1, Nat.lt_of_lt_of_le h2 hsz, ?_⟩, hsame b h2 fun hb => h3 (hbr b hb)⟩
    intro hb
    rcases List.mem_append.1 hb with hb | hb
    · rcases (hbn' b hb).1 with hb' | hb'
      · exact h3 (hbr b hb')
      · omega
    · exact h3 (hbk b hb)
  have hmen : ∀ t, t ∈ (σ.upd dst c).us ↔ (t ∈ c.men ∨ t ∈ σ.us) := fun t => by simp [St.upd]
  refine ⟨?_, β1, bn ++ bk, ?_⟩
  · intro t ht
    rw [hmen]
    rcases ht with ht | ht
    · simp only [menT, St.upd, List.mem_flatMap, List.mem_append, List.mem_filter] at ht
      obtain ⟨x, hx1 | hx1, hx2⟩ := ht
      · refine .inl ?_
        unfold Cert.outs at hx1
        split at hx1
        · simp at hx1; subst hx1
          simp only [Cert.men, List.mem_append]
          refine .inl ?_
          rename_i h1; rw [h1]; exact hx2
        · simp at hx1
      · exact .inr (h0 t (.inl (List.mem_flatMap.2 ⟨x, hx1.1, hx2⟩)))
    · simp only [menH, St.upd, List.mem_flatMap, List.mem_append, List.mem_filter] at ht
      obtain ⟨x, hx1 | hx1, hx2⟩ := ht
      · refine .inl ?_
        simp only [Cert.men, List.mem_append]
        exact .inr (List.mem_flatMap.2 ⟨x, hx1, hx2⟩)
      · exact .inr (h0 t (.inr (List.mem_flatMap.2 ⟨x, hx1.1, hx2⟩)))
  · refine { gh := h.gh, defers := put_def.trans h.defers, size := put_size.trans h.size, keys := ?_, par := fun k hk => (hβm k hk).trans (h.par k hk), grow := Nat.le_trans h.grow hsz, quiet := ⟨hq.1.trans h.quiet.1, hq.2.trans h.quiet.2⟩, keep := ?_, hp := ?_, nodup := ?_, own := ?_, tm := ?_ }
    · simp only [St.upd, List.map_append]
      refine List.nodup_append.2 ⟨hkk, List.Nodup.sublist (List.Sublist.map _ List.filter_sublist) h.keys, ?_⟩
      intro k hk k' hk' e
      subst e
      obtain ⟨x, hx1, rfl⟩ := List.mem_map.1 hk
      obtain ⟨y, hy1, hy2⟩ := List.mem_map.1 hk'
      obtain ⟨hy3, hy4⟩ := List.mem_filter.1 hy1
      rcases hkx x hx1 with h' | h'
      · rw [← hy2] at h'
        simp [h'] at hy4
      · exact h' (h0 _ (.inr (List.mem_flatMap.2 ⟨y, hy3, by simp [hy2]⟩)))
    · intro b hb hbO
      rw [hsame b (Nat.lt_of_lt_of_le hb h.grow)]
      · exact h.keep b hb hbO
      · intro hbb
        rcases (h.own b (hbr b hbb)).2 with h' | h'
        · exact hbO h'
        · omega
    · have : HRep β1 (NS Γ w1 (bn ++ bk)) w1 (σ.hp.filter (fun x => !c.hx.contains x.1)) bk := by
        refine HRep.frame hN _ _ (fun b hb => hsame b (hlt b (hbk b hb)) (hdis b hb)) (fun t ht => hβ t (h0 t (.inr ?_))) hk
        obtain ⟨x, hx1, hx2⟩ := List.mem_flatMap.1 ht
        exact List.mem_flatMap.2 ⟨x, (List.mem_filter.1 hx1).1, hx2⟩
      simp only [St.upd]
      clear hbn hbn' ho
      generalize c.hw = hh at hw ⊢
      generalize NS Γ w1 (bn ++ bk) = NN at hw this ⊢
      clear hN hdis hbk
      induction hh generalizing bn with
      | nil => simp only [HRep] at hw; subst hw; simpa using this
      | cons x hh ih =>
        obtain ⟨b1, b2, rfl, h2, h3⟩ := hw
        exact ⟨b1, b2 ++ bk, by simp, h2, ih h3⟩
    · refine List.nodup_append.2 ⟨hbn, (List.nodup_append.1 hnd).2.1, ?_⟩
      intro x hx y hy e
      subst e
      rcases (hbn' x hx).1 with hb | hb
      · exact hdis x hy hb
      · have := hlt x (hbk x hy); omega
    · intro b hb
      rcases List.mem_append.1 hb with hb | hb
      · refine ⟨(hbn' b hb).2, ?_⟩
        rcases (hbn' b hb).1 with hb' | hb'
        · exact (h.own b (hbr b hb')).2
        · exact .inr (Nat.le_trans h.grow hb')
      · exact ⟨Nat.lt_of_lt_of_le (hlt b (hbk b hb)) hsz, (h.own b (hbk b hb)).2⟩
    · exact TRep.put (h.tm.frame hN fun t ht => hβ t (h0 t (.inl ht))) (by rw [h.size]; exact hd) ho

theorem filt_nil (l : List (Nat × Ent)) : l.filter (fun x => !([] : List Nat).contains x.1) = l := by simp

theorem filt_one (l : List (Nat × Ent)) (t : Nat) : l.filter (fun x => !([t] : List Nat).contains x.1) = l.filter (fun x => x.1 != t) := by
  congr 1; funext x
  by_cases h : x.1 = t <;> simp [h]

/-- A new block. -/
theorem Rel.new {Γ : Ctx} {β : Nat → Loc} {bs : List Nat} {σ : St} {a : Act} {w : World} {dst : Option Nat} {c : Cert} {v : Value} {t z : Nat} {e : Ent} {arr : Array Value} {el : TypeId} {fz : Nat × Nat}
    (h0 : ∀ t, t ∈ menT σ.tm ∨ t ∈ menH σ.hp → t ∈ σ.us) (h : RelB Γ β bs σ a w) (hd : ∀ t, dst = some t → t < Γ.nt) (hx : c.hx = []) (hw : c.hw = [(t, e)]) (ht : t ∉ σ.us) (hm : Γ.m ≤ t)
    (he : ∀ w1 N1, w1.heap = w.heap.push (.cells arr el fz) → (∀ b, NS Γ w bs b → N1 b) → EntRep (updB β t ⟨false, w.heap.size, 0, z, arr.size⟩) N1 w1 ⟨false, w.heap.size, 0, z, arr.size⟩ [] e)
    (ho : ∀ w1 N1, w1.heap = w.heap.push (.cells arr el fz) → (∀ b, NS Γ w bs b → N1 b) → ∀ d, c.out = some d → Rep (updB β t ⟨false, w.heap.size, 0, z, arr.size⟩) N1 w1 true d v [])
    {w1 : World} (hw1 : w1.heap = w.heap.push (.cells arr el fz)) (hq : w1.os = w.os ∧ w1.output = w.output) : Rel Γ (σ.upd dst c) (a.put dst v) w1 := by
  have hN : ∀ b, NS Γ w bs b → NS Γ w1 ([w.heap.size] ++ bs) b := by
    rintro b ⟨h1, h2, h3⟩
    refine ⟨h1, by rw [hw1]; simp; omega, ?_⟩
    simp only [List.singleton_append, List.mem_cons, not_or]
    exact ⟨by omega, h3⟩
  refine Rel.step (β1 := updB β t ⟨false, w.heap.size, 0, z, arr.size⟩) (bk := bs) (br := []) (bn := [w.heap.size]) h0 h hd (by simp [hw]) (by simpa [hw] using .inr ht) (by simp) ?_ ?_ ?_ ?_ ?_ (by simp) ?_ ?_ ?_ hq
  · rw [hx, filt_nil]; exact h.hp
  · rw [hw1]; simp
  · intro b hb _
    rw [hw1, Array.getElem?_push]
    rw [if_neg (by omega)]
  · intro k hk; exact updB_ne (fun e => ht (e ▸ hk))
  · intro k hk; exact updB_ne (by omega)
  · intro b hb
    simp only [List.mem_singleton] at hb
    subst hb
    exact ⟨.inr (Nat.le_refl _), by rw [hw1]; simp⟩
  · rw [hw]
    refine ⟨[], [], by simp [updB_self, Loc.own], ?_, rfl⟩
    rw [updB_self]
    exact he w1 _ hw1 hN
  · exact ho w1 _ hw1 hN

end Go.Im

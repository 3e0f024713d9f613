import Derived.Test.YtbifnchjphefeaaDoorIm28
set_option linter.unusedVariables false
namespace Go.Im
open Go

theorem roE_map {α : Type} {enc enc' : α → List D} (h : ∀ a, D.ro.roC (enc a) = enc' a) (xs : List α) : D.ro.roE (xs.map enc) = xs.map enc' := by
  induction xs with
  | nil => rfl
  | cons x xs ih => simp only [List.map_cons, D.ro.roE, ih, h]

theorem eSl_ro {α : Type} {o : Bool} {z : Nat} {f f' : α → List D} (h : ∀ a, D.ro.roC (f a) = f' a) (xs : List α) : D.ro.roC (eSl o z f xs) = eSl false z f' xs := by
  simp only [eSl, D.ro.roC, D.ro, roE_map h]

section
variable {Γ : Ctx} {ops : Array Oper} {o : Oper}

theorem key_uniq {α : Type} : ∀ {l : List (Nat × α)} {x y : Nat × α}, (l.map (·.1)).Nodup → x ∈ l → y ∈ l → x.1 = y.1 → x = y
  | q :: qs, x, y, hk, hx, hy, h => by
    simp only [List.map_cons, List.nodup_cons] at hk
    rcases List.mem_cons.1 hx with hx | hx
    · rcases List.mem_cons.1 hy with hy | hy
      · rw [hx, hy]
      · exact absurd (List.mem_map.2 ⟨y, hy, by rw [← h, hx]⟩) hk.1
    · rcases List.mem_cons.1 hy with hy | hy
      · exact absurd (List.mem_map.2 ⟨x, hx, by rw [h, hy]⟩) hk.1
      · exact key_uniq hk.2 hx hy h

theorem outs_men {c : Cert} {dst : Option Nat} {x : Nat × D} {t : Nat} (hx : x ∈ c.outs dst) (ht : t ∈ x.2.men) : t ∈ (match c.out with | some d => d.men | none => []) := by
  obtain ⟨tn, hn, out, hxx, hw, fr⟩ := c
  unfold Cert.outs at hx
  cases dst with
  | none => simp at hx
  | some u =>
    cases out with
    | none => simp at hx
    | some d =>
      simp at hx
      subst hx
      exact ht

/-- What is given back as it was need not be named as written. -/
theorem valid_ro {c : Cert} (A B : List (Nat × Ent)) (hA : ∀ x ∈ A, x ∈ c.hn) (hhx : c.hx = A.map (·.1)) (hhw : c.hw = A ++ B) (hfr : c.fr = B.map (·.1)) (hnd : (B.map (·.1)).Nodup) (hv : Valid Γ ops o c) : Valid Γ ops o { c with hx := [], hw := B } := by
  intro σ a w Q hd hn hr
  have hn' : Nd c σ := ⟨hn.1, hn.2.1, hn.2.2⟩
  have key : ∀ a' w', Rel Γ (σ.upd o.dst c) a' w' → Rel Γ (σ.upd o.dst { c with hx := [], hw := B }) a' w' := by
    intro a' w' h
    obtain ⟨h0, β, bs, hrb⟩ := hr
    have hkB : ∀ t ∈ B.map (·.1), t ∉ σ.us := fun t ht => hn.2.2 t (by show t ∈ c.fr; rw [hfr]; exact ht)
    refine Rel.weak h (fun x hx => hx) ?_ ?_ ?_
    · intro x hx
      simp only [St.upd, List.mem_append, List.mem_filter] at hx ⊢
      rcases hx with hx | ⟨hx, _⟩
      · exact .inl (by rw [hhw]; exact List.mem_append_right _ hx)
      · by_cases hin : x.1 ∈ c.hx
        · rw [hhx] at hin
          obtain ⟨y, hy, hyx⟩ := List.mem_map.1 hin
          have hy' := hn.2.1 y (hA y hy)
          have : y = x := key_uniq hrb.keys hy' hx hyx
          subst this
          exact .inl (by rw [hhw]; exact List.mem_append_left _ hy)
        · exact .inr ⟨hx, by simpa using hin⟩
    · simp only [St.upd, List.map_append]
      refine List.nodup_append.2 ⟨hnd, List.Nodup.sublist (List.Sublist.map _ List.filter_sublist) hrb.keys, ?_⟩
      intro t ht t' ht' e
      subst e
      obtain ⟨x, hx, rfl⟩ := List.mem_map.1 ht'
      exact hkB _ ht (h0 _ (.inr (List.mem_flatMap.2 ⟨x, (List.mem_filter.1 hx).1, by simp⟩)))
    · intro t ht
      simp only [St.upd, List.mem_append]
      rcases ht with ht | ht
      · obtain ⟨x, hx, hx'⟩ := List.mem_flatMap.1 ht
        simp only [St.upd, List.mem_append, List.mem_filter] at hx
        rcases hx with hx | ⟨hx, _⟩
        · refine .inl ?_
          unfold Cert.men
          refine List.mem_append_left _ ?_
          exact outs_men (c := c) hx hx'
        · exact .inr (h0 t (.inl (List.mem_flatMap.2 ⟨x, hx, hx'⟩)))
      · obtain ⟨x, hx, hx'⟩ := List.mem_flatMap.1 ht
        simp only [St.upd, List.mem_append, List.mem_filter] at hx
        rcases hx with hx | ⟨hx, _⟩
        · refine .inl ?_
          unfold Cert.men
          refine List.mem_append_right _ ?_
          exact List.mem_flatMap.2 ⟨x, hx, hx'⟩
        · exact .inr (h0 t (.inr (List.mem_flatMap.2 ⟨x, hx, hx'⟩)))
  have := hv σ a w Q hd hn' hr
  split at this
  · rename_i hw
    rw [if_pos hw]
    exact Oper.wp_mono key this
  · rename_i hw
    rw [if_neg hw]
    exact key _ _ this
end
end Go.Im

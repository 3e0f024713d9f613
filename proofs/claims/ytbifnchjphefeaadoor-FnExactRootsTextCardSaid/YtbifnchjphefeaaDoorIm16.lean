import Derived.Test.YtbifnchjphefeaaDoorIm15
set_option linter.unusedVariables false
namespace Go.Im
open Go

variable {Γ : Ctx} {ops : Array Oper} {o : Oper}

/-- Several entries taken out. -/
theorem HRep.takes {β : Nat → Loc} {N : Nat → Prop} {w : World} : ∀ {hs hp : List (Nat × Ent)} {bs : List Nat}, HRep β N w hp bs → (hp.map (·.1)).Nodup → (hs.map (·.1)).Nodup → (∀ x ∈ hs, x ∈ hp) →
    ∃ b1 bk, bs.Perm (b1 ++ bk) ∧ HRep β N w hs b1 ∧ HRep β N w (hp.filter (fun x => !(hs.map (·.1)).contains x.1)) bk
  | [], hp, bs, h, _, _, _ => ⟨[], bs, .refl _, rfl, by rw [List.map_nil, filt_nil]; exact h⟩
  | (t, e) :: hs, hp, bs, h, hk, hks, hm => by
    simp only [List.map_cons, List.nodup_cons] at hks
    obtain ⟨b1, b2, p, hE, hrest⟩ := HRep.take h hk (hm (t, e) (by simp))
    obtain ⟨c1, ck, q1, q2, q3⟩ := HRep.takes hrest (List.Nodup.sublist (List.Sublist.map _ List.filter_sublist) hk) hks.2 (fun x hx => by
      refine List.mem_filter.2 ⟨hm x (by simp [hx]), ?_⟩
      simp only [bne_iff_ne, ne_eq]
      intro e'
      exact hks.1 (List.mem_map.2 ⟨x, hx, e'⟩))
    rw [filt_cons] at q3
    refine ⟨(β t).own ++ (b1 ++ c1), ck, ?_, ⟨b1, c1, rfl, hE, q2⟩, q3⟩
    refine p.trans ?_
    rw [List.append_assoc, List.append_assoc]
    exact List.Perm.append_left _ (List.Perm.append_left _ q1)

theorem NS.sub {w : World} {bs bs' : List Nat} (h : ∀ b ∈ bs', b ∈ bs) {b : Nat} (hb : NS Γ w bs b) : NS Γ w bs' b := ⟨hb.1, hb.2.1, fun h' => hb.2.2 (h b h')⟩

/-- Less is known. -/
theorem Rel.weak {σ σ' : St} {a : Act} {w : World} (h : Rel Γ σ a w) (ht : ∀ x ∈ σ'.tm, x ∈ σ.tm) (hh : ∀ x ∈ σ'.hp, x ∈ σ.hp) (hk : (σ'.hp.map (·.1)).Nodup) (hu : ∀ t, t ∈ menT σ'.tm ∨ t ∈ menH σ'.hp → t ∈ σ'.us) : Rel Γ σ' a w := by
  obtain ⟨h0, β, bs, h⟩ := h
  obtain ⟨b1, bk, p, q, _⟩ := HRep.takes h.hp h.keys hk hh
  have hsub : ∀ b ∈ b1, b ∈ bs := fun b hb => p.mem_iff.2 (by simp [hb])
  refine ⟨hu, β, b1, { defers := h.defers, size := h.size, keys := hk, par := h.par, grow := h.grow, gh := h.gh, quiet := h.quiet, keep := h.keep, hp := ?_, nodup := (List.nodup_append.1 (p.nodup_iff.1 h.nodup)).1, own := fun b hb => h.own b (hsub b hb), tm := ?_ }⟩
  · exact HRep.frame (fun b hb => ⟨NS.sub hsub hb, rfl⟩) _ _ (fun _ _ => rfl) (fun _ _ => rfl) q
  · intro t d hd
    obtain ⟨v, h1, h2⟩ := h.tm t d (ht _ hd)
    exact ⟨v, h1, Rep.frame (fun b hb => ⟨NS.sub hsub hb, rfl⟩) d true v [] (by simp) (fun _ _ => rfl) h2⟩

def enumE (hs : List Ent) : List (Nat × Ent) := hs.zipIdx.map (fun x => (x.2, x.1))

/-- What a call leaves. -/
def Post (Γ : Ctx) (res : D) (hout : List Ent) (e : Ending) (w' : World) : Prop :=
  ∃ v b1 b2, e = .returned v ∧ (w'.os = Γ.w0.os ∧ w'.output = Γ.w0.output) ∧ Γ.w0.heap.size ≤ w'.heap.size ∧ (∀ b, b < Γ.w0.heap.size → b ∉ Γ.O0 → w'.heap[b]? = Γ.w0.heap[b]?) ∧ (b1 ++ b2).Nodup ∧
    (∀ b ∈ b1 ++ b2, b < w'.heap.size ∧ (b ∈ Γ.O0 ∨ Γ.w0.heap.size ≤ b)) ∧ Rep Γ.β0 (NS Γ w' (b1 ++ b2)) w' true res v b1 ∧ HRep Γ.β0 (NS Γ w' (b1 ++ b2)) w' (enumE hout) b2

/-- The contract of a function: called with what reads as args, over the owned entries hin. -/
def Ok (P : Program) (f : FuncId) (args : List D) (hin : List Ent) (R : Option (D × List Ent)) : Prop :=
  ∀ out, R = some out → ∀ (w : World) (N : Nat → Prop) (β : Nat → Loc) (vs : List Value) (bs : List Nat), RepCs β N w true args vs [] → HRep β N w (enumE hin) bs → bs.Nodup → (∀ b ∈ bs, b < w.heap.size) →
    (∀ b, N b → b < w.heap.size ∧ b ∉ bs) → (∀ q ∈ gtab P, N q.1 ∧ Tab w q.1 q.2) → Calls P f vs.toArray w (Post ⟨P, f, w, N, bs, hin.length, β, 0⟩ out.1 out.2)

/-- What is read only, of what is owned. -/
def D.ro : D → D
  | .s o z n xs => .s false z n (roE xs)
  | d => d
  where
  roC : List D → List D
    | [] => []
    | d :: ds => d.ro :: roC ds
  roE : List (List D) → List (List D)
    | [] => []
    | e :: es => roC e :: roE es

theorem roC_length : ∀ (cs : List D), (D.ro.roC cs).length = cs.length
  | [] => rfl
  | d :: ds => by simp [D.ro.roC, roC_length ds]

theorem roE_length : ∀ (cs : List (List D)), (D.ro.roE cs).length = cs.length
  | [] => rfl
  | d :: ds => by simp [D.ro.roE, roE_length ds]

theorem roE_mem : ∀ {cs : List (List D)} {e : List D}, e ∈ D.ro.roE cs → ∃ e' ∈ cs, e = D.ro.roC e'
  | d :: ds, e, h => by
    simp only [D.ro.roE, List.mem_cons] at h
    rcases h with rfl | h
    · exact ⟨d, by simp, rfl⟩
    · obtain ⟨e', h1, h2⟩ := roE_mem h
      exact ⟨e', by simp [h1], h2⟩

section ro
variable {β β' : Nat → Loc} {N N' : Nat → Prop} {w : World}
mutual
theorem Rep.ro (hN : ∀ b, N b → N' b) : ∀ (d : D) (v : Value) (bs : List Nat), (∀ b ∈ bs, N' b) → Rep β N w false d v bs → Rep β' N' w false d.ro v []
  | .sc u, v, bs, _, h => by simp only [Rep, D.ro] at h ⊢; exact ⟨h.1, trivial⟩
  | .s o z n xs, v, bs, hb, h => by
    simp only [Rep] at h
    obtain ⟨h1, h2, a, cap, h3, h4, h5⟩ := h
    simp only [D.ro, Rep]
    refine ⟨by rw [roE_length, h1], fun e he => ?_, a, cap, h3, h4, ?_⟩
    · obtain ⟨e', he', rfl⟩ := roE_mem he
      rw [roC_length]; exact h2 e' he'
    · rcases h5 with h5 | ⟨h5, b, off, ws, h6, h7, h8, h9, h10⟩ | ⟨h5, b, off, ws, bs', h6, h7, h8, h9⟩
      · exact .inl ⟨h5.1, trivial, by simp⟩
      · exact .inr (.inl ⟨trivial, b, off, ws, h6, hN b h7, h8, RepEs.ro hN xs ws bs hb h9, trivial⟩)
      · subst h7
        exact .inr (.inl ⟨trivial, b, off, ws, h6, hb b (by simp), h8.has, RepEs.ro hN xs ws bs' (fun c hc => hb c (by simp [hc])) h9, trivial⟩)
  | .rf _ _ _ _, v, bs, _, h => by simp only [Rep] at h; exact absurd h.1 (by simp)
  | .pt _ _ _, v, bs, _, h => by simp only [Rep] at h; exact absurd h.1 (by simp)
  | .ps cs, v, bs, _, h => by
    simp only [Rep, D.ro] at h ⊢
    obtain ⟨h1, b, off, ws, h2, h3, h4, h5⟩ := h
    exact ⟨trivial, b, off, ws, h2, hN b h3, h4, RepCs.frame0 (fun b hb => ⟨hN b hb, rfl⟩) cs ws [] (by simp) h5⟩
  | .fn _ _, v, bs, _, h => by simp only [Rep] at h; exact absurd h.1 (by simp)
  | .ag _, v, bs, _, h => by simp only [Rep] at h; exact absurd h.1 (by simp)
  | .tu _, v, bs, _, h => by simp only [Rep] at h; exact absurd h.1 (by simp)
  | .un, v, bs, _, h => by simp only [Rep, D.ro] at h ⊢; exact ⟨h.1, trivial⟩
  | .nb _, v, bs, _, h => by simp only [Rep, D.ro] at h ⊢; exact ⟨trivial, h.2⟩
  | .sub _ _ _, v, bs, _, h => by simp only [Rep] at h; exact absurd h.1 (by simp)
  | .fb _ _, v, bs, _, h => by simp only [Rep] at h; exact absurd h.1 (by simp)
theorem RepCs.ro (hN : ∀ b, N b → N' b) : ∀ (ds : List D) (ws : List Value) (bs : List Nat), (∀ b ∈ bs, N' b) → RepCs β N w false ds ws bs → RepCs β' N' w false (D.ro.roC ds) ws []
  | [], ws, bs, _, h => by simp only [RepCs, D.ro.roC] at h ⊢; exact ⟨h.1, trivial⟩
  | d :: ds, ws, bs, hb, h => by
    simp only [RepCs] at h
    obtain ⟨v, vs, b1, b2, rfl, rfl, h3, h4⟩ := h
    simp only [D.ro.roC, RepCs]
    exact ⟨v, vs, [], [], rfl, rfl, Rep.ro hN d v b1 (fun b hb' => hb b (by simp [hb'])) h3, RepCs.ro hN ds vs b2 (fun b hb' => hb b (by simp [hb'])) h4⟩
theorem RepEs.ro (hN : ∀ b, N b → N' b) : ∀ (es : List (List D)) (ws : List Value) (bs : List Nat), (∀ b ∈ bs, N' b) → RepEs β N w es ws bs → RepEs β' N' w (D.ro.roE es) ws []
  | [], ws, bs, _, h => by simp only [RepEs, D.ro.roE] at h ⊢; exact ⟨h.1, trivial⟩
  | e :: es, ws, bs, hb, h => by
    simp only [RepEs] at h
    obtain ⟨w1, w2, b1, b2, rfl, rfl, h3, h4⟩ := h
    simp only [D.ro.roE, RepEs]
    exact ⟨w1, w2, [], [], rfl, rfl, RepCs.ro hN e w1 b1 (fun b hb' => hb b (by simp [hb'])) h3, RepEs.ro hN es w2 b2 (fun b hb' => hb b (by simp [hb'])) h4⟩
end
end ro

end Go.Im

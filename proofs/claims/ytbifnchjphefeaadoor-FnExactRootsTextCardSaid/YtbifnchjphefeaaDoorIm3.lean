import Derived.Test.YtbifnchjphefeaaDoorIm2
set_option linter.unusedVariables false
namespace Go.Im
open Go

/-- What one operation needs and gives. -/
structure Cert where
  tn : List (Nat × D) := []
  hn : List (Nat × Ent) := []
  out : Option D := none
  hx : List Nat := []
  hw : List (Nat × Ent) := []
  fr : List Nat := []

def Cert.outs (c : Cert) (dst : Option Nat) : List (Nat × D) :=
  match dst, c.out with
  | some t, some d => [(t, d)]
  | _, _ => []

theorem mem_outs {c : Cert} {dst : Option Nat} {x : Nat × D} (h : x ∈ c.outs dst) : dst = some x.1 := by
  unfold Cert.outs at h
  split at h
  · simp at h; rw [h]
  · simp at h

def Cert.men (c : Cert) : List Nat := (match c.out with | some d => d.men | none => []) ++ menH c.hw

def St.upd (σ : St) (dst : Option Nat) (c : Cert) : St :=
  ⟨c.outs dst ++ σ.tm.filter (fun x => dst != some x.1), c.hw ++ σ.hp.filter (fun x => !c.hx.contains x.1), c.men ++ σ.us⟩

/-- Two states that hold the same. -/
structure Eqv (σ σ' : St) : Prop where
  tm : σ.tm.Perm σ'.tm
  hp : σ.hp.Perm σ'.hp
  us : ∀ t, t ∈ σ.us ↔ t ∈ σ'.us

theorem Eqv.refl (σ : St) : Eqv σ σ := ⟨.refl _, .refl _, fun _ => Iff.rfl⟩
theorem Eqv.symm {σ σ' : St} (h : Eqv σ σ') : Eqv σ' σ := ⟨h.tm.symm, h.hp.symm, fun t => (h.us t).symm⟩
theorem Eqv.trans {σ σ' σ'' : St} (h : Eqv σ σ') (h' : Eqv σ' σ'') : Eqv σ σ'' := ⟨h.tm.trans h'.tm, h.hp.trans h'.hp, fun t => (h.us t).trans (h'.us t)⟩

theorem Eqv.upd {σ σ' : St} (h : Eqv σ σ') (dst : Option Nat) (c : Cert) : Eqv (σ.upd dst c) (σ'.upd dst c) :=
  ⟨(h.tm.filter _).append_left _, (h.hp.filter _).append_left _, fun t => by simp [St.upd, h.us t]⟩

def Nd (c : Cert) (σ : St) : Prop := (∀ x ∈ c.tn, x ∈ σ.tm) ∧ (∀ x ∈ c.hn, x ∈ σ.hp) ∧ (∀ t ∈ c.fr, t ∉ σ.us)

theorem Nd.eqv {c : Cert} {σ σ' : St} (e : Eqv σ σ') (h : Nd c σ) : Nd c σ' :=
  ⟨fun x hx => e.tm.mem_iff.1 (h.1 x hx), fun x hx => e.hp.mem_iff.1 (h.2.1 x hx), fun t ht h' => h.2.2 t ht ((e.us t).2 h')⟩

/-- Two operations that may change places. -/
def apart (d1 : Option Nat) (c1 : Cert) (d2 : Option Nat) (c2 : Cert) : Bool :=
  (match d1 with | some t => d2 != some t && c2.tn.all (fun x => x.1 != t) | none => true) &&
  (match d2 with | some t => c1.tn.all (fun x => x.1 != t) | none => true) &&
  c1.hx.all (fun t => c2.hn.all (fun x => x.1 != t) && c2.hw.all (fun x => x.1 != t)) &&
  c2.hx.all (fun t => c1.hn.all (fun x => x.1 != t) && c1.hw.all (fun x => x.1 != t)) &&
  c1.hw.all (fun x => c2.hn.all (fun y => x.1 != y.1)) &&
  c1.fr.all (fun t => !c2.men.contains t)

theorem apart_spec {d1 d2 : Option Nat} {c1 c2 : Cert} (h : apart d1 c1 d2 c2 = true) :
    (∀ t, d1 = some t → d2 ≠ some t ∧ ∀ x ∈ c2.tn, x.1 ≠ t) ∧ (∀ t, d2 = some t → ∀ x ∈ c1.tn, x.1 ≠ t) ∧
    (∀ t ∈ c1.hx, (∀ x ∈ c2.hn, x.1 ≠ t) ∧ (∀ x ∈ c2.hw, x.1 ≠ t)) ∧ (∀ t ∈ c2.hx, (∀ x ∈ c1.hn, x.1 ≠ t) ∧ (∀ x ∈ c1.hw, x.1 ≠ t)) ∧
    (∀ x ∈ c1.hw, ∀ y ∈ c2.hn, x.1 ≠ y.1) ∧ (∀ t ∈ c1.fr, t ∉ c2.men) := by
  simp only [apart, Bool.and_eq_true] at h
  obtain ⟨⟨⟨⟨⟨h1, h2⟩, h3⟩, h4⟩, h5⟩, h6⟩ := h
  refine ⟨?_, ?_, ?_, ?_, ?_, ?_⟩
  · rintro t rfl
    simp only [Bool.and_eq_true] at h1
    exact ⟨by simpa using h1.1, by simpa using h1.2⟩
  · rintro t rfl
    simpa using h2
  · simpa using h3
  · simpa using h4
  · intro x hx y hy
    have := List.all_eq_true.1 h5 x hx
    have := List.all_eq_true.1 this y hy
    simpa using this
  · simpa using h6

theorem swap {σ : St} {d1 d2 : Option Nat} {c1 c2 : Cert} (h : apart d1 c1 d2 c2 = true) (n1 : Nd c1 σ) (n2 : Nd c2 (σ.upd d1 c1)) :
    Nd c2 σ ∧ Nd c1 (σ.upd d2 c2) ∧ Eqv ((σ.upd d1 c1).upd d2 c2) ((σ.upd d2 c2).upd d1 c1) := by
  obtain ⟨h1, h2, h3, h4, h5, h6⟩ := apart_spec h
  refine ⟨⟨?_, ?_, ?_⟩, ⟨?_, ?_, ?_⟩, ⟨?_, ?_, ?_⟩⟩
  · intro x hx
    have := n2.1 x hx
    simp only [St.upd, List.mem_append, List.mem_filter] at this
    rcases this with h' | h'
    · exact absurd rfl ((h1 _ (mem_outs h')).2 _ hx)
    · exact h'.1
  · intro x hx
    have := n2.2.1 x hx
    simp only [St.upd, List.mem_append, List.mem_filter] at this
    rcases this with h' | h'
    · exact absurd rfl (h5 x h' x hx)
    · exact h'.1
  · intro t ht h'
    exact n2.2.2 t ht (by simp [St.upd, h'])
  · intro x hx
    simp only [St.upd, List.mem_append, List.mem_filter]
    refine .inr ⟨n1.1 x hx, ?_⟩
    simp only [bne_iff_ne, ne_eq]
    intro hd
    exact h2 _ hd x hx rfl
  · intro x hx
    simp only [St.upd, List.mem_append, List.mem_filter]
    refine .inr ⟨n1.2.1 x hx, ?_⟩
    simp only [Bool.not_eq_eq_eq_not, Bool.not_true, List.contains_eq_mem, decide_eq_false_iff_not]
    intro hd
    exact (h4 _ hd).1 x hx rfl
  · intro t ht h'
    simp only [St.upd, List.mem_append] at h'
    rcases h' with h' | h'
    · exact h6 t ht h'
    · exact n1.2.2 t ht h'
  · simp only [St.upd, List.filter_append, List.filter_filter]
    have e1 : (c1.outs d1).filter (fun x => d2 != some x.1) = c1.outs d1 := by
      rw [List.filter_eq_self]
      intro x hx
      simpa using (h1 _ (mem_outs hx)).1
    have e2 : (c2.outs d2).filter (fun x => d1 != some x.1) = c2.outs d2 := by
      rw [List.filter_eq_self]
      intro x hx
      simp only [bne_iff_ne, ne_eq]
      intro he
      exact (h1 _ he).1 (mem_outs hx)
    rw [e1, e2, ← List.append_assoc, ← List.append_assoc]
    refine List.Perm.append (List.perm_append_comm) ?_
    rw [show (fun x : Nat × D => d2 != some x.1 && d1 != some x.1) = (fun x => d1 != some x.1 && d2 != some x.1) from by funext x; exact Bool.and_comm _ _]
  · simp only [St.upd, List.filter_append, List.filter_filter]
    have e1 : c1.hw.filter (fun x => !c2.hx.contains x.1) = c1.hw := by
      rw [List.filter_eq_self]
      intro x hx
      simp only [Bool.not_eq_eq_eq_not, Bool.not_true, List.contains_eq_mem, decide_eq_false_iff_not]
      intro he
      exact (h4 _ he).2 x hx rfl
    have e2 : c2.hw.filter (fun x => !c1.hx.contains x.1) = c2.hw := by
      rw [List.filter_eq_self]
      intro x hx
      simp only [Bool.not_eq_eq_eq_not, Bool.not_true, List.contains_eq_mem, decide_eq_false_iff_not]
      intro he
      exact (h3 _ he).2 x hx rfl
    rw [e1, e2, ← List.append_assoc, ← List.append_assoc]
    refine List.Perm.append (List.perm_append_comm) ?_
    rw [show (fun x : Nat × Ent => !c2.hx.contains x.1 && !c1.hx.contains x.1) = (fun x => !c1.hx.contains x.1 && !c2.hx.contains x.1) from by funext x; exact Bool.and_comm _ _]
  · intro t
    simp only [St.upd, List.mem_append]
    exact ⟨fun h => by rcases h with h | h | h <;> simp [h], fun h => by rcases h with h | h | h <;> simp [h]⟩

/-- Whatever order is picked. -/
def AnyA (ops : Array Oper) (cs : Nat → Cert) (F : St → Prop) : Nat → Array Bool → St → Prop
  | 0, listed, σ => Region.ready .any ops listed = [] ∧ F σ
  | k + 1, listed, σ => (Region.ready .any ops listed = [] → F σ) ∧
      ∀ i ∈ Region.ready .any ops listed, Nd (cs i) σ ∧ AnyA ops cs F k (listed.setIfInBounds i true) (σ.upd ((ops[i]?).bind (·.dst)) (cs i))

theorem AnyA.eqv {ops : Array Oper} {cs : Nat → Cert} {F : St → Prop} (hF : ∀ σ σ', Eqv σ σ' → F σ → F σ') : ∀ (k : Nat) (listed : Array Bool) (σ σ' : St), Eqv σ σ' →
    AnyA ops cs F k listed σ → AnyA ops cs F k listed σ'
  | 0, _, σ, σ', e, h => ⟨h.1, hF _ _ e h.2⟩
  | k + 1, _, σ, σ', e, h => ⟨fun h0 => hF _ _ e (h.1 h0), fun i hi => ⟨(h.2 i hi).1.eqv e, AnyA.eqv hF k _ _ _ (e.upd _ _) (h.2 i hi).2⟩⟩

theorem AnyA.first {ops : Array Oper} {cs : Nat → Cert} {F : St → Prop} (hF : ∀ σ σ', Eqv σ σ' → F σ → F σ') {i : Nat} (dp : List Nat)
    (hD : ∀ j ∈ dp, ∀ oj, ops[j]? = some oj → ∃ e ∈ oj.after, Region.binds .any e = true ∧ (e.on = i ∨ e.on ∈ dp)) :
    ∀ (fuel : Nat) (listed : Array Bool) (σ : St),
      (∀ j oj, ops[j]? = some oj → j ≠ i → listed.getD j true = false → j ∉ dp →
        apart ((ops[i]?).bind (·.dst)) (cs i) ((ops[j]?).bind (·.dst)) (cs j) = true) →
      (∀ j ∈ dp, listed.getD j false = false) →
      i ∈ Region.ready .any ops listed → Nd (cs i) σ →
      AnyA ops cs F fuel (listed.setIfInBounds i true) (σ.upd ((ops[i]?).bind (·.dst)) (cs i)) → AnyA ops cs F (fuel + 1) listed σ := by
  intro fuel
  induction fuel with
  | zero =>
    intro listed σ _ _ hr hn H
    refine ⟨fun h => (by rw [h] at hr; cases hr), fun j hj => ?_⟩
    by_cases hji : j = i
    · subst hji; exact ⟨hn, H⟩
    · have := ready_mono hj hji
      rw [H.1] at this
      cases this
  | succ fuel ih =>
    intro listed σ hfree hun0 hr hn H
    refine ⟨fun h => (by rw [h] at hr; cases hr), fun j hj => ?_⟩
    by_cases hji : j = i
    · subst hji; exact ⟨hn, H⟩
    · have h1 := H.2 j (ready_mono hj hji)
      obtain ⟨hjun, oj, hoj, hall⟩ := mem_ready.1 hj
      have hilt : listed.getD i false = false := by
        have h0 := (mem_ready.1 hr).1
        rcases Nat.lt_or_ge i listed.size with h' | h'
        · simp [h'] at h0 ⊢; exact h0
        · simp [Array.getElem?_eq_none h']
      have hnot : j ∉ dp := fun hin => by
        obtain ⟨e, he, hb, heq⟩ := hD j hin oj hoj
        have h1 := hall e he hb
        rcases heq with heq | heq
        · rw [heq] at h1
          rcases Nat.lt_or_ge i listed.size with h' | h'
          · simp [h'] at hilt h1; rw [hilt] at h1; cases h1
          · simp [Array.getElem?_eq_none h'] at h1
        · have hlt := hun0 _ heq
          rcases Nat.lt_or_ge e.on listed.size with h' | h'
          · simp [h'] at hlt h1; rw [hlt] at h1; cases h1
          · simp [Array.getElem?_eq_none h'] at h1
      obtain ⟨s1, s2, s3⟩ := swap (hfree j oj hoj hji hjun hnot) hn h1.1
      have hfree' : ∀ k ok, ops[k]? = some ok → k ≠ i → (listed.setIfInBounds j true).getD k true = false →
          k ∉ dp → apart ((ops[i]?).bind (·.dst)) (cs i) ((ops[k]?).bind (·.dst)) (cs k) = true := fun k ok hk hki hun hno => by
        refine hfree k ok hk hki ?_ hno
        by_cases hjk : j = k
        · subst hjk; exact hjun
        · rw [getD_set_ne true hjk] at hun; exact hun
      have hun' : ∀ k ∈ dp, (listed.setIfInBounds j true).getD k false = false := fun k hk => by
        by_cases hjk : j = k
        · subst hjk; exact absurd hk hnot
        · rw [getD_set_ne false hjk]; exact hun0 k hk
      refine ⟨s1, ih (listed.setIfInBounds j true) _ hfree' hun' (ready_mono hr (Ne.symm hji)) s2 ?_⟩
      rw [Array.setIfInBounds_comm _ _ hji]
      exact AnyA.eqv hF _ _ _ _ s3 h1.2

/-- What waits for an operation, at first or at second hand. -/
def depsOf (ops : Array Oper) (k : Nat) : Nat → List Nat → List Nat
  | 0, acc => acc
  | n + 1, acc => depsOf ops k n (match ops[ops.size - (n + 1)]? with
    | some oj => if oj.after.any (fun e => Region.binds .any e && (e.on == k || acc.contains e.on)) then (ops.size - (n + 1)) :: acc else acc
    | none => acc)

theorem depsOf_spec {ops : Array Oper} {k : Nat} : ∀ (n : Nat) (acc : List Nat), (∀ j ∈ acc, ∀ oj, ops[j]? = some oj → ∃ e ∈ oj.after, Region.binds .any e = true ∧ (e.on = k ∨ e.on ∈ acc)) →
    ∀ j ∈ depsOf ops k n acc, ∀ oj, ops[j]? = some oj → ∃ e ∈ oj.after, Region.binds .any e = true ∧ (e.on = k ∨ e.on ∈ depsOf ops k n acc)
  | 0, acc, h => h
  | n + 1, acc, h => by
    unfold depsOf
    apply depsOf_spec n
    split
    · rename_i oj hoj
      split
      · rename_i hany
        rw [Array.any_eq_true] at hany
        obtain ⟨m, hm, hb⟩ := hany
        simp only [Bool.and_eq_true, Bool.or_eq_true, beq_iff_eq, List.contains_eq_mem, decide_eq_true_eq] at hb
        intro j hj oj' hoj'
        rcases List.mem_cons.1 hj with rfl | hj
        · rw [hoj] at hoj'
          cases hoj'
          refine ⟨_, Array.getElem_mem hm, hb.1, ?_⟩
          rcases hb.2 with hb2 | hb2
          · exact .inl hb2
          · exact .inr (List.mem_cons_of_mem _ hb2)
        · obtain ⟨e, h1, h2, h3⟩ := h j hj oj' hoj'
          refine ⟨e, h1, h2, ?_⟩
          rcases h3 with h3 | h3
          · exact .inl h3
          · exact .inr (List.mem_cons_of_mem _ h3)
      · exact h
    · exact h

/-- The check that the lexical order serves every order. -/
def lexA (ops : Array Oper) (cs : Nat → Cert) : Nat → Nat → Array Bool → Bool
  | 0, _, listed => (Region.ready .any ops listed).isEmpty
  | n + 1, k, listed => (Region.ready .any ops listed).contains k &&
      (depsOf ops k ops.size []).all (fun j => !listed.getD j false) &&
      (List.range ops.size).all (fun j => j == k || listed.getD j true || (match ops[j]? with
        | some oj => (depsOf ops k ops.size []).contains j || apart ((ops[k]?).bind (·.dst)) (cs k) (oj.dst) (cs j)
        | none => true)) &&
      lexA ops cs n (k + 1) (listed.setIfInBounds k true)

/-- The lexical run. -/
def LexRun (ops : Array Oper) (cs : Nat → Cert) (F : St → Prop) : Nat → Nat → St → Prop
  | 0, _, σ => F σ
  | n + 1, k, σ => Nd (cs k) σ ∧ LexRun ops cs F n (k + 1) (σ.upd ((ops[k]?).bind (·.dst)) (cs k))

theorem AnyA.lex {ops : Array Oper} {cs : Nat → Cert} {F : St → Prop} (hF : ∀ σ σ', Eqv σ σ' → F σ → F σ') : ∀ (n k : Nat) (listed : Array Bool) (σ : St),
    lexA ops cs n k listed = true → LexRun ops cs F n k σ → AnyA ops cs F n listed σ
  | 0, _, _, _, hB, h => ⟨by simpa [lexA] using hB, h⟩
  | n + 1, k, listed, σ, hB, h => by
    simp only [lexA, Bool.and_eq_true] at hB
    obtain ⟨⟨⟨hr, hdl⟩, hf⟩, hB'⟩ := hB
    refine AnyA.first hF (depsOf ops k ops.size []) (depsOf_spec ops.size [] (by simp)) n listed σ ?_ ?_ (by simpa using hr) h.1 (AnyA.lex hF n (k + 1) _ _ hB' h.2)
    · intro j oj hj hjk hun hno
      have hlt : j < ops.size := by
        rcases Nat.lt_or_ge j ops.size with h' | h'
        · exact h'
        · simp [Array.getElem?_eq_none h'] at hj
      have := List.all_eq_true.1 hf j (List.mem_range.2 hlt)
      rw [hj, hun] at this
      simp only [Bool.or_false, Bool.or_eq_true, beq_iff_eq, hjk, false_or, List.contains_eq_mem, decide_eq_true_eq] at this
      rcases this with h' | h'
      · exact absurd h' hno
      · rw [hj]; exact h'
    · intro j hj
      simpa using List.all_eq_true.1 hdl j hj

end Go.Im

import Derived.Test.YtbifnchjphefeaaDoorIm18
set_option linter.unusedVariables false
namespace Go.Im
open Go

/-! ### The text by paths -/
def child (r : Bool) : Code → Code
  | .seq a b => if r then b else a
  | .cond _ x y => if r then y else x
  | .block _ b => b
  | .loop b => b
  | .scope b => b
  | _ => .skip

def subF (fc : Code) : Nat → Nat → Code
  | 0, _ => .skip
  | f + 1, p => if p ≤ 1 then fc else child (p % 2 == 1) (subF fc f (p / 2))

def sub (fc : Code) (p : Nat) : Code := subF fc 250 p

inductive II where
  | c (p : Nat)
  | b (id : Nat)
  | l (p : Nat)

def II.item (fc : Code) : II → Item
  | .c p => .code (sub fc p)
  | .b id => .inBlock id
  | .l p => .inLoop (sub fc p)

def exitI (id : Nat) : List II → Option (List II)
  | .b id' :: k => if id' == id then some k else exitI id k
  | _ :: k => exitI id k
  | [] => none

theorem exitI_spec (fc : Code) (id : Nat) : ∀ (k k' : List II), exitI id k = some k' → exitTo id (k.map (II.item fc)) = some (k'.map (II.item fc))
  | .b id' :: k, k', h => by
    simp only [exitI] at h
    simp only [List.map_cons, II.item, exitTo]
    split at h
    · rename_i hh; cases h; rw [if_pos hh]
    · rename_i hh; rw [if_neg hh]; exact exitI_spec fc id k k' h
  | .c p :: k, k', h => by simp only [exitI] at h; simp only [List.map_cons, II.item, exitTo]; exact exitI_spec fc id k k' h
  | .l p :: k, k', h => by simp only [exitI] at h; simp only [List.map_cons, II.item, exitTo]; exact exitI_spec fc id k k' h

/-- One step of control. -/
def ctl1 (fc : Code) (tm : List (Nat × D)) : List II → Option (List II)
  | .b _ :: k => some k
  | .l p :: k => some (.c p :: .l p :: k)
  | .c p :: k => if p = 0 ∨ 1000000000000000000000000000000000000000000000000000000000000 ≤ p then none else match sub fc p with
    | .skip => some k
    | .label _ => some k
    | .seq _ _ => some (.c (2 * p) :: .c (2 * p + 1) :: k)
    | .block id _ => some (.c (2 * p) :: .b id :: k)
    | .loop _ => some (.c (2 * p) :: .l (2 * p) :: k)
    | .exit id => exitI id k
    | .cond (.tmp t) _ _ => match lk tm t with
      | some (.sc (.bool true)) => some (.c (2 * p) :: k)
      | some (.sc (.bool false)) => some (.c (2 * p + 1) :: k)
      | _ => none
    | _ => none
  | [] => none

def ctlN (fc : Code) (tm : List (Nat × D)) : Nat → List II → Option (List II)
  | 0, k => some k
  | n + 1, k => match ctl1 fc tm k with
    | some k' => ctlN fc tm n k'
    | none => none

def Goes (Γ : Ctx) (items : List Item) (R : Ending → World → Prop) (a : Act) (w : World) : Prop :=
  ∀ (b : Frame) (cs : List Frame), b.fn = Γ.fid → b.kind = .normal → ∃ e w' fr, R e w' ∧ Comes Γ.P (lone (b.at a items) cs w) (lone fr cs w') e ∧ fr.fn = Γ.fid ∧ fr.leaving Γ.P w' e

/-- The judgement: from this point and state the text carries out e, and K tells what is answered. -/
def J (Γ : Ctx) (fc : Code) (k : List II) (σ : St) {T : Type} (e : Option T) (K : T → Option (D × List Ent)) : Prop :=
  ∀ r out, e = some r → K r = some out → ∀ a w, Rel Γ σ a w → Goes Γ (k.map (II.item fc)) (Post Γ out.1 out.2) a w

variable {Γ : Ctx} {fc : Code} {k : List II} {σ : St} {T U : Type} {K : T → Option (D × List Ent)}

theorem J_none : J Γ fc k σ none K := fun _ _ h => by cases h

theorem J_bind {y : Option U} {f : U → Option T} (h : ∀ x, y = some x → J Γ fc k σ (f x) K) : J Γ fc k σ (y.bind f) K := by
  intro r out he
  cases hy : y with
  | none => rw [hy] at he; cases he
  | some x => rw [hy] at he; exact h x hy r out he

theorem J_cond {b : Bool} {x y : Option T} (h1 : b = true → J Γ fc k σ x K) (h2 : b = false → J Γ fc k σ y K) : J Γ fc k σ (cond b x y) K := by
  cases b with
  | true => exact h1 rfl
  | false => exact h2 rfl

theorem J_next {V : Type} {W : Type} {q : V → W} {v : V} {K : W → Option (D × List Ent)} {e : Option T} {K0 : T → Option (D × List Ent)} (hK : ∀ out, K (q v) = some out → ∃ r, e = some r ∧ K0 r = some out) (h : J Γ fc k σ e K0) :
    J Γ fc k σ (some (q v)) K := by
  intro r out he hk
  cases he
  obtain ⟨r', h1, h2⟩ := hK out hk
  exact h r' out h1 h2

theorem Goes.step {items items' : List Item} {R : Ending → World → Prop} {a : Act} {w : World} (hs : ∀ (b : Frame) (cs : List Frame), step Γ.P (lone (b.at a items) cs w) = .next (lone (b.at a items') cs w))
    (h : Goes Γ items' R a w) : Goes Γ items R a w := by
  intro b cs hb hk
  obtain ⟨e, w', fr, h1, h2, h3⟩ := h b cs hb hk
  exact ⟨e, w', fr, h1, .of_steps (.one (hs b cs)) h2, h3⟩

theorem subF_stable (fc : Code) : ∀ (f p : Nat), p < 2 ^ f → ∀ g, f ≤ g → 1 ≤ f → subF fc g p = subF fc f p
  | 0, p, _, g, _, h1 => by omega
  | f + 1, p, hp, 0, hg, _ => by omega
  | f + 1, p, hp, g + 1, hg, _ => by
    simp only [subF]
    split
    · rfl
    · rename_i hp1
      rcases Nat.eq_zero_or_pos f with h0 | h0
      · subst h0; simp at hp; omega
      · rw [subF_stable fc f (p / 2) (by rw [Nat.pow_succ] at hp; omega) g (by omega) h0]

theorem sub_two {p : Nat} (hp : 1 ≤ p) (hb : p < 2 ^ 249) : sub fc (2 * p) = child false (sub fc p) := by
  unfold sub
  rw [show (250 : Nat) = 249 + 1 from rfl]
  rw [subF]
  rw [if_neg (by omega)]
  rw [show 2 * p / 2 = p by omega, show ((2 * p % 2 == 1) = false) by simp]
  rw [subF_stable fc 249 p hb (249 + 1) (by omega) (by omega)]

theorem sub_two1 {p : Nat} (hp : 1 ≤ p) (hb : p < 2 ^ 249) : sub fc (2 * p + 1) = child true (sub fc p) := by
  unfold sub
  rw [show (250 : Nat) = 249 + 1 from rfl]
  rw [subF]
  rw [if_neg (by omega)]
  rw [show (2 * p + 1) / 2 = p by omega, show (((2 * p + 1) % 2 == 1) = true) by simp]
  rw [subF_stable fc 249 p hb (249 + 1) (by omega) (by omega)]

theorem ctl1_spec {tm : List (Nat × D)} {k k' : List II} (h : ctl1 fc tm k = some k') (hr : ∀ x ∈ tm, x ∈ σ.tm) {a : Act} {w : World} (hrel : Rel Γ σ a w) (b : Frame) (cs : List Frame) :
    step Γ.P (lone (b.at a (k.map (II.item fc))) cs w) = .next (lone (b.at a (k'.map (II.item fc))) cs w) := by
  cases k with
  | nil => simp [ctl1] at h
  | cons x k =>
    cases x with
    | b id => simp only [ctl1] at h; cases h; exact step_inBlock
    | l p => simp only [ctl1] at h; cases h; exact step_inLoop
    | c p =>
      simp only [ctl1] at h
      split at h
      · cases h
      · rename_i hp
        have hp1 : 1 ≤ p := by omega
        have hp2 : p < 2 ^ 249 := by
          have h1 : p < 1000000000000000000000000000000000000000000000000000000000000 := by omega
          have h2 : (1000000000000000000000000000000000000000000000000000000000000 : Nat) ≤ 2 ^ 200 := by decide
          exact Nat.lt_of_lt_of_le (Nat.lt_of_lt_of_le h1 h2) (Nat.pow_le_pow_right (by omega) (by omega))
        have e0 := sub_two (fc := fc) hp1 hp2
        have e1 := sub_two1 (fc := fc) hp1 hp2
        split at h
        · rename_i hs; cases h; simp only [List.map_cons, II.item, hs]; exact step_skip
        · rename_i hs; cases h; simp only [List.map_cons, II.item, hs]; exact step_label
        · rename_i hs; cases h; rw [hs] at e0 e1; simp only [List.map_cons, II.item, hs, e0, e1]; exact step_seq
        · rename_i hs; cases h; rw [hs] at e0; simp only [List.map_cons, II.item, hs, e0]; exact step_block
        · rename_i hs; cases h; rw [hs] at e0; simp only [List.map_cons, II.item, hs, e0]; exact step_loop
        · rename_i hs; simp only [List.map_cons, II.item, hs]; exact step_exit (exitI_spec fc _ _ _ h)
        · rename_i t x y hs
          obtain ⟨h0, β, bs, hrb⟩ := hrel
          split at h
          · rename_i hl
            cases h
            rw [hs] at e0
            obtain ⟨v, h1, h2⟩ := hrb.tm t _ (hr _ (lk_mem hl))
            simp only [Rep] at h2
            simp only [List.map_cons, II.item, hs, e0]
            exact step_cond (t := true) (by simp [Act.eval, Array.getD_eq_getD_getElem?, h1, h2.1])
          · rename_i hl
            cases h
            rw [hs] at e1
            obtain ⟨v, h1, h2⟩ := hrb.tm t _ (hr _ (lk_mem hl))
            simp only [Rep] at h2
            simp only [List.map_cons, II.item, hs, e1]
            exact step_cond (t := false) (by simp [Act.eval, Array.getD_eq_getD_getElem?, h1, h2.1])
          · cases h
        · cases h

/-- Control. -/
theorem J_ctl {e : Option T} (n : Nat) (k' : List II) (h : ctlN fc σ.tm n k = some k') (hj : J Γ fc k' σ e K) : J Γ fc k σ e K := by
  intro r out he hk a w hrel
  have hg := hj r out he hk a w hrel
  clear hj
  induction n generalizing k with
  | zero => simp only [ctlN] at h; cases h; exact hg
  | succ n ih =>
    simp only [ctlN] at h
    split at h
    · rename_i k1 hk1
      exact Goes.step (ctl1_spec hk1 (fun _ hx => hx) hrel) (ih h)
    · cases h

/-- A region. -/
theorem J_region {e : Option T} {p id : Nat} {ops : Array Oper} {draw : Bool} {cs : Nat → Cert} {σ1 σ2 : St} (hs : sub fc p = .region id ops draw) (hm : Γ.P.follows .mixedOrders = true)
    (hv : ∀ i o, ops[i]? = some o → Valid Γ ops o (cs i) ∧ ∀ t, o.dst = some t → t < Γ.nt) (hd : draw = true → lexA ops cs ops.size 0 (Array.replicate ops.size false) = true)
    (hrun : LexRun ops cs (fun s => Eqv s σ1) ops.size 0 σ) (hweak : ∀ a w, Rel Γ σ1 a w → Rel Γ σ2 a w) (hj : J Γ fc k σ2 e K) : J Γ fc (.c p :: k) σ e K := by
  intro r out he hk a w hrel b cs' hb hbk
  have hw := region (id := id) hm hv hd hrun hrel
  obtain ⟨ex, a', w', ⟨rfl, hrel'⟩, harr⟩ := hw b (k.map (II.item fc)) cs'
  obtain ⟨en, w'', fr, h1, h2, h3⟩ := hj r out he hk a' w' (hweak _ _ hrel') b cs' hb hbk
  refine ⟨en, w'', fr, h1, ?_, h3⟩
  simp only [List.map_cons, II.item, hs]
  exact .of_steps harr h2

/-- Less is known. -/
theorem J_weak {e : Option T} {σ' : St} (h : ∀ a w, Rel Γ σ a w → Rel Γ σ' a w) (hj : J Γ fc k σ' e K) : J Γ fc k σ e K := fun r out he hk a w hrel => hj r out he hk a w (h a w hrel)

/-! ### The answer -/
def ResF (σ : St) (P : Program) : ResultVar → D → Prop
  | .tmp t, d => (t, d) ∈ σ.tm
  | .cell t T, d => ∃ q cs j, (t, .pt q 0 j) ∈ σ.tm ∧ (q, .box cs) ∈ σ.hp ∧ ofCells P T (cs.drop j) = some d

def ResFs (σ : St) (P : Program) : List ResultVar → List D → Prop
  | [], [] => True
  | r :: rs, d :: ds => ResF σ P r d ∧ ResFs σ P rs ds
  | _, _ => False

/-- Own what is handed back. -/
inductive Ret (hn : List (Nat × Ent)) : D → D → List Nat → Prop where
  | cell {d d' : D} {ts : List Nat} : Emb hn [d] [d'] ts → Ret hn d d' ts
  | ag {cs cs' : List D} {ts : List Nat} : Emb hn cs cs' ts → Ret hn (.ag cs) (.ag cs') ts

inductive Rets (hn : List (Nat × Ent)) : List D → List D → List Nat → Prop where
  | nil : Rets hn [] [] []
  | cons {d d' : D} {ds ds' : List D} {t1 t2 : List Nat} : Ret hn d d' t1 → Rets hn ds ds' t2 → (∀ t ∈ t1, t ∉ t2) → Rets hn (d :: ds) (d' :: ds') (t1 ++ t2)

theorem filt_app (l : List (Nat × Ent)) (t1 t2 : List Nat) : (l.filter (fun x => !t1.contains x.1)).filter (fun x => !t2.contains x.1) = l.filter (fun x => !(t1 ++ t2).contains x.1) := by
  rw [List.filter_filter]
  congr 1; funext x
  by_cases h : x.1 ∈ t1 <;> by_cases h2 : x.1 ∈ t2 <;> simp [h, h2]

theorem Ret.rep {β : Nat → Loc} {N : Nat → Prop} {w : World} {hn : List (Nat × Ent)} {d d' : D} {ts : List Nat} (he : Ret hn d d' ts) {hp : List (Nat × Ent)} {bs : List Nat} {v : Value}
    (h : HRep β N w hp bs) (hk : (hp.map (·.1)).Nodup) (hh : ∀ x ∈ hn, x.1 ∈ ts → x ∈ hp) (hr : Rep β N w true d v []) :
    ∃ b1 bk, bs.Perm (b1 ++ bk) ∧ Rep β N w true d' v b1 ∧ HRep β N w (hp.filter (fun x => !ts.contains x.1)) bk := by
  cases he with
  | cell he =>
    obtain ⟨b1, bk, q1, q2, q3⟩ := Emb.rep he h hk hh (ws := [v]) (by simp only [RepCs]; exact ⟨v, [], [], [], rfl, rfl, hr, rfl, rfl⟩)
    simp only [RepCs] at q2
    obtain ⟨v', vs, c1, c2, e1, rfl, e3, e4, rfl⟩ := q2
    cases e1
    exact ⟨_, bk, q1, by simpa using e3.up, q3⟩
  | ag he =>
    simp only [Rep] at hr
    obtain ⟨h1, ws, rfl, h3, h4⟩ := hr
    obtain ⟨b1, bk, q1, q2, q3⟩ := Emb.rep he h hk hh h4
    exact ⟨b1, bk, q1, by simp only [Rep]; exact ⟨trivial, ws, rfl, h3, q2.up⟩, q3⟩

theorem Rets.rep {β : Nat → Loc} {N : Nat → Prop} {w : World} {hn : List (Nat × Ent)} {ds ds' : List D} {ts : List Nat} (he : Rets hn ds ds' ts) : ∀ {hp : List (Nat × Ent)} {bs : List Nat} {vs : List Value},
    HRep β N w hp bs → (hp.map (·.1)).Nodup → (∀ x ∈ hn, x.1 ∈ ts → x ∈ hp) → RepCs β N w true ds vs [] →
    ∃ b1 bk, bs.Perm (b1 ++ bk) ∧ RepCs β N w true ds' vs b1 ∧ HRep β N w (hp.filter (fun x => !ts.contains x.1)) bk := by
  induction he with
  | nil => intro hp bs vs h _ _ hr; exact ⟨[], bs, .refl _, hr, by rw [filt_nil]; exact h⟩
  | cons h1 _ hdis ih =>
    intro hp bs vs h hk hh hr
    simp only [RepCs] at hr
    obtain ⟨v, vs', b1, b2, rfl, hb, h3, h4⟩ := hr
    rw [(List.append_eq_nil_iff.1 hb.symm).1] at h3
    rw [(List.append_eq_nil_iff.1 hb.symm).2] at h4
    obtain ⟨c1, ck, q1, q2, q3⟩ := h1.rep h hk (fun x hx hxt => hh x hx (by simp [hxt])) h3
    obtain ⟨c2, ck2, q4, q5, q6⟩ := ih q3 (List.Nodup.sublist (List.Sublist.map _ List.filter_sublist) hk) (fun x hx hxt => by
      refine List.mem_filter.2 ⟨hh x hx (by simp [hxt]), ?_⟩
      simp only [Bool.not_eq_eq_eq_not, Bool.not_true, List.contains_eq_mem, decide_eq_false_iff_not]
      intro h'; exact hdis _ h' hxt) h4
    rw [filt_app] at q6
    refine ⟨c1 ++ c2, ck2, ?_, ?_, q6⟩
    · refine q1.trans ?_
      rw [List.append_assoc]
      exact List.Perm.append_left _ q4
    · simp only [RepCs]
      exact ⟨v, vs', c1, c2, rfl, rfl, q2, q5⟩

def resOne (a : Act) : ResultVar → Sem Value
  | .tmp t => pure (a.tmps.getD t undef)
  | .cell q t => do loadVar t (← asAddr (a.tmps.getD q undef))

theorem run_results {β : Nat → Loc} {bs : List Nat} {a : Act} {w : World} (hr : RelB Γ β bs σ a w) : ∀ {rs : List ResultVar} {ds : List D}, ResFs σ Γ.P rs ds →
    ∃ vs : List Value, (rs.mapM (resOne a)).run Γ.P w = Result.ok vs w ∧ RepCs β (NS Γ w bs) w true ds vs []
  | [], [], _ => ⟨[], rfl, by simp [RepCs]⟩
  | r :: rs, d :: ds, h => by
    obtain ⟨h1, h2⟩ := h
    obtain ⟨vs, h3, h4⟩ := run_results hr h2
    have : ∃ v, (resOne a r).run Γ.P w = Result.ok v w ∧ Rep β (NS Γ w bs) w true d v [] := by
      cases r with
      | tmp t =>
        obtain ⟨v, g1, g2⟩ := hr.tm t d h1
        exact ⟨v, by simp only [resOne, Array.getD_eq_getD_getElem?, g1]; rfl, g2⟩
      | cell q T =>
        obtain ⟨e, cs, j, g1, g2, g3⟩ := h1
        obtain ⟨v, g4, g5⟩ := hr.tm q _ g1
        simp only [Rep] at g5
        obtain ⟨b1, ⟨_, hz, ws, g6, g7, g8⟩, _, _⟩ := HRep.get hr.hp g2
        obtain ⟨b2, b3, _, _, g9⟩ := g8.split j
        obtain ⟨u, g10, g11⟩ := run_loadVar g3 (g6.has.drop j) (fun y hy => g7 y (List.mem_of_mem_drop hy)) g9
        refine ⟨u, ?_, g11⟩
        simp only [resOne, Array.getD_eq_getD_getElem?, g4, Option.getD_some, g5.2.2.2, Nat.zero_mul, Nat.add_zero]
        exact g10
    obtain ⟨v, g1, g2⟩ := this
    refine ⟨v :: vs, ?_, ?_⟩
    · rw [List.mapM_cons, run_bind_ok g1, run_bind_ok h3]
      rfl
    · simp only [RepCs]
      exact ⟨v, vs, [], [], rfl, rfl, g2, h4⟩

def outD : List D → D
  | [d] => d
  | ds => .tu ds

theorem run_resV {P : Program} {fn : Func} {a : Act} {w : World} {vs : List Value} (h : (fn.results.toList.mapM (resOne a)).run P w = Result.ok vs w) :
    (results fn a.tmps).run P w = Result.ok (if h : vs.length = 1 then vs[0] else .tuple vs.toArray) w := by
  have e : results fn a.tmps = (do let vs ← fn.results.mapM (resOne a); pure (if h : vs.size = 1 then vs[0] else .tuple vs)) := by
    unfold results
    congr 1
  rw [e]
  have : (fn.results.mapM (resOne a)).run P w = .ok vs.toArray w := by
    rw [Array.mapM_eq_mapM_toList, map_eq_pure_bind]
    rw [run_bind_ok h]
    rfl
  rw [run_bind_ok this]
  simp only [List.size_toArray, List.getElem_toArray]
  rfl

theorem outD_rep {β : Nat → Loc} {N : Nat → Prop} {w : World} {ds : List D} {vs : List Value} {bs : List Nat} (h : RepCs β N w true ds vs bs) : Rep β N w true (outD ds) (if h : vs.length = 1 then vs[0] else .tuple vs.toArray) bs := by
  have hl := h.length
  cases ds with
  | nil =>
    have : vs = [] := List.length_eq_zero_iff.1 (by simpa using hl)
    subst this
    simp only [outD, Rep]
    exact ⟨trivial, [], by simp, h⟩
  | cons d ds =>
    cases ds with
    | nil =>
      simp only [RepCs] at h
      obtain ⟨v', vs', c1, c2, rfl, rfl, e3, rfl, rfl⟩ := h
      simpa [outD] using e3
    | cons d2 ds =>
      have hne : ¬ vs.length = 1 := by simp at hl; omega
      simp only [outD, Rep, hne, dif_neg, not_false_eq_true]
      exact ⟨trivial, vs, rfl, h⟩

theorem outD_men (ds : List D) : ∀ t ∈ (outD ds).men, t ∈ D.men.menL ds := by
  intro t ht
  unfold outD at ht
  split at ht
  · simpa [D.men.menL] using ht
  · simpa [D.men] using ht

/-- Going back. -/
theorem J_ret {T : Type} {v : T} {K : T → Option (D × List Ent)} {fn : Func} {rs : List ResultVar} {ds ds' : List D} {ts : List Nat} {hout : List Ent} (hk : k = [] ∨ ∃ p k', k = .c p :: k' ∧ sub fc p = .ret) (hf : Γ.P.funcs[Γ.fid]? = some fn)
    (hrs : fn.results.toList = rs) (hds : ResFs σ Γ.P rs ds) (hret : Rets σ.hp ds ds' ts) (hout' : ∀ x ∈ enumE hout, x ∈ σ.hp ∧ x.1 ∉ ts) (hlen : hout.length ≤ Γ.m) (hm1 : ∀ t ∈ D.men.menL ds', t < Γ.m) (hm2 : ∀ e ∈ hout, ∀ t ∈ e.men, t < Γ.m)
    (hK : K v = some (outD ds', hout)) : J Γ fc k σ (some v) K := by
  intro r out he hkk a w hrel b cs hb hbk
  cases he
  rw [hK] at hkk
  cases hkk
  obtain ⟨h0, β, bs, hr⟩ := hrel
  obtain ⟨vs, h1, h2⟩ := run_results hr hds
  obtain ⟨b1, bk, p1, h3, h4⟩ := Rets.rep hret hr.hp hr.keys (fun x hx _ => hx) h2
  have hek : ((enumE hout).map (·.1)).Nodup := by
    unfold enumE
    rw [List.map_map]
    have : ((fun x : Nat × Ent => x.1) ∘ fun x : Ent × Nat => (x.2, x.1)) = Prod.snd := by funext x; rfl
    rw [this, List.zipIdx_map_snd]
    exact List.nodup_range'
  obtain ⟨b2, bk2, p2, h5, _⟩ := HRep.takes h4 (List.Nodup.sublist (List.Sublist.map _ List.filter_sublist) hr.keys) hek (fun x hx => by
    obtain ⟨g1, g2⟩ := hout' x hx
    exact List.mem_filter.2 ⟨g1, by simpa using g2⟩)
  have hp : bs.Perm ((b1 ++ b2) ++ bk2) := by
    refine p1.trans ?_
    rw [List.append_assoc]
    exact List.Perm.append_left _ p2
  have hsub : ∀ x ∈ b1 ++ b2, x ∈ bs := fun x hx => hp.mem_iff.2 (List.mem_append_left _ hx)
  have hres := run_resV (P := Γ.P) (fn := fn) (by rw [hrs]; exact h1)
  have hval := outD_rep h3
  generalize (if h : vs.length = 1 then vs[0] else .tuple vs.toArray) = vv at hres hval
  have hpost : Post Γ (outD ds') hout (.returned vv) w := by
    refine ⟨_, b1, b2, rfl, hr.quiet, hr.grow, hr.keep, (List.nodup_append.1 (hp.nodup_iff.1 hr.nodup)).1, fun b hb => hr.own b (hsub b hb), ?_, ?_⟩
    · exact Rep.frame (fun b hb => ⟨NS.sub hsub hb, rfl⟩) _ true _ b1 (fun _ _ => rfl) (fun t ht => (hr.par t (hm1 t (outD_men _ t ht))).symm) hval
    · refine HRep.frame (fun b hb => ⟨NS.sub hsub hb, rfl⟩) _ _ (fun _ _ => rfl) (fun t ht => ?_) h5
      obtain ⟨x, hx1, hx2⟩ := List.mem_flatMap.1 ht
      have hx3 := enumE_get.1 hx1
      refine (hr.par t ?_).symm
      rcases List.mem_cons.1 hx2 with rfl | hx2
      · exact Nat.lt_of_lt_of_le (List.getElem?_eq_some_iff.1 hx3).1 hlen
      · exact hm2 x.2 (List.mem_of_getElem? hx3) t hx2
  have hleave : ∀ todo, Frame.leaving Γ.P { b.at a todo with mode := .returning } w (.returned vv) := by
    intro todo
    refine ⟨rfl, hr.defers, hbk, fn, ?_, hres⟩
    show Γ.P.funcs[b.fn]? = some fn
    rw [hb]; exact hf
  rcases hk with rfl | ⟨p, k', rfl, hs⟩
  · exact ⟨_, w, { b.at a [] with mode := .returning }, hpost, Steps.one step_end, hb, hleave []⟩
  · refine ⟨_, w, { b.at a (.code .ret :: k'.map (II.item fc)) with mode := .returning }, hpost, ?_, hb, hleave _⟩
    simp only [List.map_cons, II.item, hs]
    exact Steps.one step_ret

theorem mem_menL {d : D} {t : Nat} : ∀ {ds : List D}, d ∈ ds → t ∈ d.men → t ∈ D.men.menL ds
  | x :: ds, h, ht => by
    simp only [D.men.menL, List.mem_append]
    rcases List.mem_cons.1 h with e | h
    · rw [← e]; exact .inl ht
    · exact .inr (mem_menL h ht)

/-- The way in. -/
theorem Ok_of {P : Program} {f : FuncId} {fn : Func} {args : List D} {hin : List Ent} {R : Option (D × List Ent)} {T : Type} {e : Option T} {K : T → Option (D × List Ent)} {nt : Nat} {us : List Nat} (hf : P.funcs[f]? = some fn) (hb : fn.body = some fc) (hnt : fn.ntmps = nt)
    (hna : args.length ≤ nt) (hus : ∀ t, t ∈ D.men.menL args ∨ t ∈ menH (enumE hin) → t ∈ us) (hR : ∀ out, R = some out → ∃ r, e = some r ∧ K r = some out)
    (h : ∀ (w0 : World) (N0 : Nat → Prop) (O0 : List Nat) (β0 : Nat → Loc), J ⟨P, f, w0, N0, O0, hin.length, β0, nt⟩ fc [.c 1] ⟨args.zipIdx.map (fun x => (x.2, x.1)), enumE hin, us⟩ e K) : Ok P f args hin R := by
  intro out hout w N β vs bs hargs hhp hnd hlt hN hG
  obtain ⟨r, hr1, hr2⟩ := hR out hout
  have hlen := hargs.length
  have hgoes := h w N bs β r out hr1 hr2 { tmps := vs.toArray ++ Array.replicate (fn.ntmps - vs.toArray.size) undef, defers := [] } w ?_
  · intro cs
    let b : Frame := { (default : Frame) with fn := f, kind := .normal }
    have henter : Frame.enter P f vs.toArray .normal = b.at { tmps := vs.toArray ++ Array.replicate (fn.ntmps - vs.toArray.size) undef, defers := [] } [.code fc] := by
      simp [Frame.enter, Frame.at, hf, hb, b]
    have hsub : sub fc 1 = fc := by simp [sub, subF]
    obtain ⟨en, w', fr, h1, h2, h3, h4⟩ := hgoes b cs rfl rfl
    simp only [List.map_cons, List.map_nil, II.item, hsub] at h2
    rw [← henter] at h2
    exact ⟨en, w', fr, h1, h2, h3, h4⟩
  · have hNs : ∀ b, N b → NS ⟨P, f, w, N, bs, hin.length, β, nt⟩ w bs b := fun b hb => ⟨.inl hb, (hN b hb).1, (hN b hb).2⟩
    refine ⟨?_, β, bs, { defers := rfl, size := ?_, keys := ?_, par := fun _ _ => rfl, gh := fun q hq => ⟨(hG q hq).1, (hN _ (hG q hq).1).1, (hN _ (hG q hq).1).2, (hG q hq).2⟩, grow := Nat.le_refl _, quiet := ⟨rfl, rfl⟩, keep := fun _ _ _ => rfl, hp := ?_, nodup := hnd, own := fun b hb => ⟨hlt b hb, .inl hb⟩, tm := ?_ }⟩
    · intro t ht
      refine hus t (ht.imp (fun ht => ?_) id)
      obtain ⟨x, hx1, hx2⟩ := List.mem_flatMap.1 ht
      obtain ⟨y, hy1, rfl⟩ := List.mem_map.1 hx1
      have hy2 : y.1 ∈ args := by
        have := List.mem_zipIdx_iff_getElem?.1 hy1
        exact List.mem_of_getElem? this
      exact mem_menL hy2 hx2
    · simp only [Array.size_append, List.size_toArray, Array.size_replicate, hnt]; omega
    · unfold enumE
      rw [List.map_map]
      have : ((fun x : Nat × Ent => x.1) ∘ fun x : Ent × Nat => (x.2, x.1)) = Prod.snd := by funext x; rfl
      rw [this, List.zipIdx_map_snd]
      exact List.nodup_range'
    · exact HRep.frame (fun b hb => ⟨hNs b hb, rfl⟩) _ _ (fun _ _ => rfl) (fun _ _ => rfl) hhp
    · intro t d hd
      obtain ⟨y, hy1, hy2⟩ := List.mem_map.1 hd
      cases hy2
      have hy3 := List.mem_zipIdx_iff_getElem?.1 hy1
      obtain ⟨v, h1, h2⟩ := repCs_get hargs hy3
      refine ⟨v, ?_, Rep.frame (fun b hb => ⟨hNs b hb, rfl⟩) _ true v [] (by simp) (fun _ _ => rfl) h2⟩
      have hlt' : y.2 < vs.length := (List.getElem?_eq_some_iff.1 h1).1
      rw [Array.getElem?_append_left (by simpa using hlt')]
      simpa using h1

end Go.Im

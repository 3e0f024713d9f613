import Derived.Test.YtbifnchjphefeaaDoorIm20
set_option linter.unusedVariables false
namespace Go.Im
open Go

def acG (P : Program) (ops : Array Oper) (id : Option Nat) (o : Oper) (σ : St) : Option Cert :=
  match o.guard with
  | none => ac0 P id o σ
  | some (g, want) => match (ops[g]?).bind (·.dst) with
    | some t => match lk σ.tm t with
      | some (.sc (.bool true)) => if want then (ac0 P id { o with guard := none } σ).map fun c => { c with tn := (t, .sc (.bool true)) :: c.tn } else some { tn := [(t, .sc (.bool true))] }
      | some (.sc (.bool false)) => if want then some { tn := [(t, .sc (.bool false))] } else (ac0 P id { o with guard := none } σ).map fun c => { c with tn := (t, .sc (.bool false)) :: c.tn }
      | _ => none
    | none => none

variable {Γ : Ctx} {ops : Array Oper} {o : Oper} {σ : St}

theorem acG_good {c : Cert} {id : Option Nat} (h : acG Γ.P ops id o σ = some c) : Good Γ ops o σ c := by
  unfold acG at h
  split at h
  · rename_i hg; exact ac0_good hg h
  · rename_i g want hg
    split at h
    · rename_i t ht
      split at h
      · rename_i hl
        split at h
        · rename_i hw
          subst hw
          cases hc : ac0 Γ.P id { o with guard := none } σ with
          | none => rw [hc] at h; cases h
          | some c' =>
            rw [hc] at h; cases h
            have q := ac0_good (Γ := Γ) (ops := ops) (o := { o with guard := none }) rfl hc
            exact ⟨fun hm => valid_guard hg ht rfl (q.v hm), fun x hx => by
              rcases List.mem_cons.1 hx with rfl | hx
              · exact lk_mem hl
              · exact q.tn x hx, q.hn⟩
        · rename_i hw
          cases h
          have : want = false := by simpa using hw
          subst this
          exact ⟨fun _ => valid_skip (b := true) hg ht, by simpa using lk_mem hl, by simp⟩
      · rename_i hl
        split at h
        · rename_i hw
          subst hw
          cases h
          exact ⟨fun _ => valid_skip (b := false) hg ht, by simpa using lk_mem hl, by simp⟩
        · rename_i hw
          have : want = false := by simpa using hw
          subst this
          cases hc : ac0 Γ.P id { o with guard := none } σ with
          | none => rw [hc] at h; cases h
          | some c' =>
            rw [hc] at h; cases h
            have q := ac0_good (Γ := Γ) (ops := ops) (o := { o with guard := none }) rfl hc
            exact ⟨fun hm => valid_guard hg ht rfl (q.v hm), fun x hx => by
              rcases List.mem_cons.1 hx with rfl | hx
              · exact lk_mem hl
              · exact q.tn x hx, q.hn⟩
      · cases h
    · cases h

structure RR where
  st : St
  cs : List Cert
  L : List (Option D)
  E : List (Option D)
  Lh : List (Option Ent)
  Eh : List (Option Ent)
  ok : Bool

def RR.fail (σ : St) : RR := ⟨σ, [], [], [], [], [], false⟩

/-- The lexical run of a region; orc: what is told of the operations that are not easy. -/
def runR (P : Program) (nt m : Nat) (ops : Array Oper) (orc : List (Nat × Cert)) (ids : List (Nat × Nat)) : Nat → Nat → St → RR
  | 0, _, σ => ⟨σ, [], [], [], [], [], true⟩
  | n + 1, k, σ => match ops[k]? with
    | none => .fail σ
    | some o =>
      let fine (c : Cert) : Bool := (match o.dst with | some t => decide (t < nt) | none => true) && c.fr.all (fun t => !σ.us.contains t && decide (m ≤ t))
      match lk orc k with
      | some c => let r := runR P nt m ops orc ids n (k + 1) (σ.upd o.dst c)
        ⟨r.st, c :: r.cs, c.tn.map (fun x => lk σ.tm x.1) ++ r.L, c.tn.map (fun x => some x.2) ++ r.E, c.hn.map (fun x => lk σ.hp x.1) ++ r.Lh, c.hn.map (fun x => some x.2) ++ r.Eh, r.ok && fine c⟩
      | none => match acG P ops (lk ids k) o σ with
        | some c => let r := runR P nt m ops orc ids n (k + 1) (σ.upd o.dst c)
          ⟨r.st, c :: r.cs, r.L, r.E, r.Lh, r.Eh, r.ok && fine c⟩
        | none => .fail σ

theorem facts_of {α : Type} {l : List (Nat × α)} : ∀ {tn : List (Nat × α)}, tn.map (fun x => lk l x.1) = tn.map (fun x => some x.2) → ∀ x ∈ tn, x ∈ l
  | [], _, x, hx => by simp at hx
  | y :: tn, h, x, hx => by
    simp only [List.map_cons, List.cons.injEq] at h
    rcases List.mem_cons.1 hx with rfl | hx
    · exact lk_mem h.1
    · exact facts_of h.2 x hx

theorem runR_sound {orc : List (Nat × Cert)} {ids : List (Nat × Nat)} {nt : Nat} (hnt : Γ.nt = nt) (hor : ∀ i c, lk orc i = some c → ∀ o, ops[i]? = some o → Valid Γ ops o c) : ∀ (n k : Nat) (σ : St), k + n = ops.size →
    (runR Γ.P nt Γ.m ops orc ids n k σ).ok = true → (runR Γ.P nt Γ.m ops orc ids n k σ).L = (runR Γ.P nt Γ.m ops orc ids n k σ).E → (runR Γ.P nt Γ.m ops orc ids n k σ).Lh = (runR Γ.P nt Γ.m ops orc ids n k σ).Eh →
    ∀ (cs : Nat → Cert), (∀ i, i < n → cs (k + i) = (runR Γ.P nt Γ.m ops orc ids n k σ).cs.getD i {}) →
    (∀ i o, k ≤ i → ops[i]? = some o → Valid Γ ops o (cs i) ∧ ∀ t, o.dst = some t → t < Γ.nt) ∧ LexRun ops cs (fun s => s = (runR Γ.P nt Γ.m ops orc ids n k σ).st) n k σ
  | 0, k, σ, hk, hok, hL, hLh, cs, hcs => by
    refine ⟨fun i o hi ho => ?_, rfl⟩
    rw [Array.getElem?_eq_none (by omega)] at ho
    cases ho
  | n + 1, k, σ, hk, hok, hL, hLh, cs, hcs => by
    have hget : ops[k]? = some ops[k] := Array.getElem?_eq_getElem (by omega)
    have h0 := hcs 0 (by omega)
    have key : ∀ (c : Cert), (runR Γ.P nt Γ.m ops orc ids n (k + 1) (σ.upd ops[k].dst c)).ok = true → (runR Γ.P nt Γ.m ops orc ids n (k + 1) (σ.upd ops[k].dst c)).L = (runR Γ.P nt Γ.m ops orc ids n (k + 1) (σ.upd ops[k].dst c)).E →
        (runR Γ.P nt Γ.m ops orc ids n (k + 1) (σ.upd ops[k].dst c)).Lh = (runR Γ.P nt Γ.m ops orc ids n (k + 1) (σ.upd ops[k].dst c)).Eh → cs k = c →
        (∀ i, i < n → cs (k + 1 + i) = (runR Γ.P nt Γ.m ops orc ids n (k + 1) (σ.upd ops[k].dst c)).cs.getD i {}) → Valid Γ ops ops[k] c → Nd c σ → (∀ t, ops[k].dst = some t → t < Γ.nt) →
        (∀ i o, k ≤ i → ops[i]? = some o → Valid Γ ops o (cs i) ∧ ∀ t, o.dst = some t → t < Γ.nt) ∧ LexRun ops cs (fun s => s = (runR Γ.P nt Γ.m ops orc ids n (k + 1) (σ.upd ops[k].dst c)).st) (n + 1) k σ := by
      intro c g1 g2 g3 g4 g5 g6 g7 g8
      obtain ⟨q1, q2⟩ := runR_sound hnt hor n (k + 1) _ (by omega) g1 g2 g3 cs g5
      refine ⟨fun i o hi ho => ?_, ?_⟩
      · rcases Nat.eq_or_lt_of_le hi with rfl | hi
        · rw [hget] at ho; cases ho
          rw [g4]; exact ⟨g6, g8⟩
        · exact q1 i o hi ho
      · simp only [LexRun, hget, Option.bind_some]
        rw [g4]
        exact ⟨g7, q2⟩
    have hfine : ∀ c : Cert, ((match ops[k].dst with | some t => decide (t < nt) | none => true) && c.fr.all (fun t => !σ.us.contains t && decide (Γ.m ≤ t))) = true →
        (∀ t, ops[k].dst = some t → t < Γ.nt) ∧ (∀ t ∈ c.fr, t ∉ σ.us) ∧ ∀ t ∈ c.fr, Γ.m ≤ t := by
      intro c hc
      simp only [Bool.and_eq_true] at hc
      refine ⟨fun t ht => ?_, fun t ht => ?_, fun t ht => ?_⟩
      · have := hc.1; rw [ht] at this; rw [hnt]; simpa using this
      · have := List.all_eq_true.1 hc.2 t ht; simp at this; exact this.1
      · have := List.all_eq_true.1 hc.2 t ht; simp at this; exact this.2
    simp only [runR, hget] at hok hL hLh hcs h0 ⊢
    cases horc : lk orc k with
    | some c =>
      simp only [horc, Bool.and_eq_true] at hok hL hLh hcs h0 ⊢
      obtain ⟨f1, f2, f3⟩ := hfine c (by simpa using hok.2)
      have hL' := List.append_inj hL (by simp)
      have hLh' := List.append_inj hLh (by simp)
      refine key c hok.1 hL'.2 hLh'.2 (by simpa using h0) (fun i hi => ?_) (hor k c horc _ hget) ⟨facts_of hL'.1, facts_of hLh'.1, f2⟩ f1
      have := hcs (i + 1) (by omega)
      rw [show k + 1 + i = k + (i + 1) by omega, this]
      simp
    | none =>
      simp only [horc] at hok hL hLh hcs h0 ⊢
      cases hac : acG Γ.P ops (lk ids k) ops[k] σ with
      | none => simp only [hac, RR.fail] at hok; cases hok
      | some c =>
        simp only [hac, Bool.and_eq_true] at hok hL hLh hcs h0 ⊢
        obtain ⟨f1, f2, f3⟩ := hfine c (by simpa using hok.2)
        have q := acG_good hac
        refine key c hok.1 hL hLh (by simpa using h0) (fun i hi => ?_) (q.v f3) ⟨q.tn, q.hn, f2⟩ f1
        have := hcs (i + 1) (by omega)
        rw [show k + 1 + i = k + (i + 1) by omega, this]
        simp

def nodupK : List Nat → Bool
  | [] => true
  | t :: ts => !ts.contains t && nodupK ts

theorem nodupK_spec : ∀ {l : List Nat}, nodupK l = true → l.Nodup
  | [], _ => by simp
  | t :: ts, h => by
    simp only [nodupK, Bool.and_eq_true] at h
    exact List.nodup_cons.2 ⟨by simpa using h.1, nodupK_spec h.2⟩

/-- The whole look at a region. -/
def chk (P : Program) (nt m : Nat) (fc : Code) (p : Nat) (orc : List (Nat × Cert)) (ids : List (Nat × Nat)) (σ : St) (tm2 : List (Nat × D)) (hp2 : List (Nat × Ent)) : List (Option D) × List (Option D) × List (Option Ent) × List (Option Ent) × Bool :=
  match sub fc p with
  | .region _ ops draw =>
    let r := runR P nt m ops orc ids ops.size 0 σ
    (r.L ++ tm2.map (fun x => lk r.st.tm x.1), r.E ++ tm2.map (fun x => some x.2), r.Lh ++ hp2.map (fun x => lk r.st.hp x.1), r.Eh ++ hp2.map (fun x => some x.2),
      r.ok && nodupK (hp2.map (·.1)) && (!draw || lexA ops (fun i => r.cs.getD i {}) ops.size 0 (Array.replicate ops.size false)))
  | _ => ([], [], [], [], false)

def opAt (fc : Code) (p i : Nat) : Option Oper := match sub fc p with
  | .region _ ops _ => ops[i]?
  | _ => none

def dstAt (fc : Code) (p i : Nat) : Option Nat := (opAt fc p i).bind (·.dst)

/-- What is told of operations, and that it holds. -/
def OrcV (Γ : Ctx) (fc : Code) (p : Nat) : List (Nat × Cert) → Prop
  | [] => True
  | (i, c) :: rest => (∀ id ops draw, sub fc p = .region id ops draw → ∀ o, ops[i]? = some o → Valid Γ ops o c) ∧ OrcV Γ fc p rest

theorem OrcV.get {fc : Code} {p : Nat} : ∀ {orc : List (Nat × Cert)}, OrcV Γ fc p orc → ∀ i c, lk orc i = some c → ∀ id ops draw, sub fc p = .region id ops draw → ∀ o, ops[i]? = some o → Valid Γ ops o c
  | (j, c') :: rest, h, i, c, hl => by
    simp only [lk] at hl
    split at hl
    · rename_i e; cases hl; subst e; exact h.1
    · exact OrcV.get h.2 i c hl

theorem orc1 {fc : Code} {p i : Nat} {c : Cert} {op : Op} (h : (opAt fc p i).map (fun o => (o.op, o.guard)) = some (op, none)) (hv : ∀ ops o, o.op = op → o.guard = none → Valid Γ ops o c) :
    ∀ id ops draw, sub fc p = .region id ops draw → ∀ o, ops[i]? = some o → Valid Γ ops o c := by
  intro id ops draw hs o ho
  have e : opAt fc p i = some o := by unfold opAt; rw [hs]; exact ho
  rw [e] at h
  simp at h
  exact hv ops o h.1 h.2

theorem orcG {fc : Code} {p i g t : Nat} {b : Bool} {c : Cert} {op : Op} (h : (opAt fc p i).map (fun o => (o.op, o.guard)) = some (op, some (g, b))) (hd : dstAt fc p g = some t) (hv : ∀ ops o, o.op = op → o.guard = none → Valid Γ ops o c) :
    ∀ id ops draw, sub fc p = .region id ops draw → ∀ o, ops[i]? = some o → Valid Γ ops o { c with tn := (t, .sc (.bool b)) :: c.tn } := by
  intro id ops draw hs o ho
  have e : opAt fc p i = some o := by unfold opAt; rw [hs]; exact ho
  rw [e] at h
  simp at h
  refine valid_guard h.2 ?_ rfl (hv ops _ h.1 rfl)
  unfold dstAt opAt at hd
  rw [hs] at hd
  exact hd

variable {fc : Code} {k : List II} {T : Type} {K : T → Option (D × List Ent)}

def St.mk' (tm : List (Nat × D)) (hp : List (Nat × Ent)) : St := ⟨tm, hp, menT tm ++ menH hp⟩

/-- A region, run. -/
theorem J_run {e : Option T} {p : Nat} (orc : List (Nat × Cert)) (ids : List (Nat × Nat)) (tm2 : List (Nat × D)) (hp2 : List (Nat × Ent)) (hm : Γ.P.follows .mixedOrders = true) (hor : OrcV Γ fc p orc)
    (h : ((chk Γ.P Γ.nt Γ.m fc p orc ids σ tm2 hp2).1, (chk Γ.P Γ.nt Γ.m fc p orc ids σ tm2 hp2).2.2.1, (chk Γ.P Γ.nt Γ.m fc p orc ids σ tm2 hp2).2.2.2.2) =
      ((chk Γ.P Γ.nt Γ.m fc p orc ids σ tm2 hp2).2.1, (chk Γ.P Γ.nt Γ.m fc p orc ids σ tm2 hp2).2.2.2.1, true))
    (hj : J Γ fc k (St.mk' tm2 hp2) e K) : J Γ fc (.c p :: k) σ e K := by
  simp only [Prod.mk.injEq] at h
  obtain ⟨h1, h2, h3⟩ := h
  cases hs : sub fc p with
  | region id ops draw =>
    unfold chk at h1 h2 h3
    simp only [hs, Bool.and_eq_true] at h1 h2 h3
    have hlen : ∀ (n kk : Nat) (s : St), (runR Γ.P Γ.nt Γ.m ops orc ids n kk s).L.length = (runR Γ.P Γ.nt Γ.m ops orc ids n kk s).E.length ∧ (runR Γ.P Γ.nt Γ.m ops orc ids n kk s).Lh.length = (runR Γ.P Γ.nt Γ.m ops orc ids n kk s).Eh.length := by
      intro n
      induction n with
      | zero => intro kk s; simp [runR]
      | succ n ih =>
        intro kk s
        simp only [runR]
        split
        · simp [RR.fail]
        · rename_i o' _
          split
          · rename_i c _
            have := ih (kk + 1) (s.upd o'.dst c)
            simp [this.1, this.2]
          · split
            · rename_i c _
              exact ih (kk + 1) (s.upd o'.dst c)
            · simp [RR.fail]
    obtain ⟨l1, l2⟩ := hlen ops.size 0 σ
    have a1 := List.append_inj h1 l1
    have a2 := List.append_inj h2 l2
    obtain ⟨q1, q2⟩ := runR_sound rfl (fun i c hc o ho => OrcV.get hor i c hc id ops draw hs o ho) ops.size 0 σ (by omega) h3.1.1 a1.1 a2.1 (fun i => (runR Γ.P Γ.nt Γ.m ops orc ids ops.size 0 σ).cs.getD i {}) (fun i hi => by rw [Nat.zero_add])
    refine J_region (cs := fun i => (runR Γ.P Γ.nt Γ.m ops orc ids ops.size 0 σ).cs.getD i {}) (σ1 := (runR Γ.P Γ.nt Γ.m ops orc ids ops.size 0 σ).st) (σ2 := St.mk' tm2 hp2) hs hm (fun i o ho => q1 i o (Nat.zero_le _) ho) ?_ ?_ ?_ hj
    · intro hdr
      have := h3.2
      rw [hdr] at this
      simpa using this
    · have : ∀ (n kk : Nat) (s : St) (F G : St → Prop), (∀ x, F x → G x) → LexRun ops (fun i => (runR Γ.P Γ.nt Γ.m ops orc ids ops.size 0 σ).cs.getD i {}) F n kk s → LexRun ops (fun i => (runR Γ.P Γ.nt Γ.m ops orc ids ops.size 0 σ).cs.getD i {}) G n kk s := by
        intro n
        induction n with
        | zero => intro kk s F G hFG h; exact hFG _ h
        | succ n ih => intro kk s F G hFG h; exact ⟨h.1, ih _ _ F G hFG h.2⟩
      exact this _ _ _ _ _ (fun x hx => by rw [hx]; exact Eqv.refl _) q2
    · intro a w hrel
      refine Rel.weak hrel (facts_of a1.2) (facts_of a2.2) (nodupK_spec h3.1.2) ?_
      intro t ht
      simpa [St.mk'] using ht
  | _ =>
    unfold chk at h3
    simp only [hs] at h3
    cases h3

end Go.Im

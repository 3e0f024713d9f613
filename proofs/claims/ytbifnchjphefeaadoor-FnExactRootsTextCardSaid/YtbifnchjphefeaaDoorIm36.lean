import Derived.Test.YtbifnchjphefeaaDoorIm35
set_option linter.unusedVariables false
namespace Go.Im
open Go

/-! ### Short words -/
def iv (x : Int) : D := .sc (.int .i64 x)
def uv (x : Int) : D := .sc (.int .u8 x)
def bv (b : Bool) : D := .sc (.bool b)
def sv (s : ByteArray) : D := .sc (.string s)
def nv : D := .sc (.slice none 0 0)
def sl {α : Type} (z : Nat) (e : α → List D) (xs : List α) : D := .s false z xs.length (xs.map e)
def so {α : Type} (z : Nat) (e : α → List D) (xs : List α) : D := .s true z xs.length (xs.map e)
def rr {α : Type} (t : Nat) (xs : List α) : D := .rf t 0 xs.length none
def pp (t : Nat) : D := .pt t 0 0
def rE {α : Type} (z : Nat) (e : α → List D) (xs : List α) : Ent := .row z (xs.map e)

/-! ### Places of the text -/
def aftF (fc : Code) : Nat → Nat → List II
  | 0, _ => []
  | f + 1, p => if p ≤ 1 then [] else match sub fc (p / 2) with
    | .seq _ _ => if p % 2 == 0 then .c (p + 1) :: aftF fc f (p / 2) else aftF fc f (p / 2)
    | .block id _ => .b id :: aftF fc f (p / 2)
    | .loop _ => .l p :: aftF fc f (p / 2)
    | _ => aftF fc f (p / 2)

def aft (fc : Code) (p : Nat) : List II := aftF fc 250 p
def atI (fc : Code) (p : Nat) : List II := .c p :: aft fc p

def ctlT (fc : Code) (tm : List (Nat × D)) (p : Nat) : Nat → List II → Option (List II)
  | 0, _ => none
  | n + 1, k => match k with
    | .c q :: r => if q = p then some r else match ctl1 fc tm (.c q :: r) with
      | some k' => ctlT fc tm p n k'
      | none => none
    | k => match ctl1 fc tm k with
      | some k' => ctlT fc tm p n k'
      | none => none

theorem ctlT_spec {fc : Code} {tm : List (Nat × D)} {p : Nat} : ∀ (n : Nat) (k r : List II), ctlT fc tm p n k = some r → ∃ m, ctlN fc tm m k = some (.c p :: r)
  | 0, k, r, h => by cases h
  | n + 1, k, r, h => by
    unfold ctlT at h
    split at h
    · rename_i q r'
      split at h
      · rename_i e; subst e; cases h; exact ⟨0, rfl⟩
      · split at h
        · rename_i k' hk'
          obtain ⟨m, hm⟩ := ctlT_spec n k' r h
          exact ⟨m + 1, by simp only [ctlN, hk']; exact hm⟩
        · cases h
    · split at h
      · rename_i k' hk'
        obtain ⟨m, hm⟩ := ctlT_spec n k' r h
        exact ⟨m + 1, by simp only [ctlN, hk']; exact hm⟩
      · cases h

def II.eq : II → II → Bool
  | .c x, .c y => x == y
  | .b x, .b y => x == y
  | .l x, .l y => x == y
  | _, _ => false

theorem II.eq_spec : ∀ {p q : II}, II.eq p q = true → p = q
  | .c x, .c y, h => by simp [II.eq] at h; rw [h]
  | .b x, .b y, h => by simp [II.eq] at h; rw [h]
  | .l x, .l y, h => by simp [II.eq] at h; rw [h]
  | .c _, .b _, h => by cases h
  | .c _, .l _, h => by cases h
  | .b _, .c _, h => by cases h
  | .b _, .l _, h => by cases h
  | .l _, .c _, h => by cases h
  | .l _, .b _, h => by cases h

def IIs.eq : List II → List II → Bool
  | [], [] => true
  | a :: k, b :: k' => II.eq a b && IIs.eq k k'
  | _, _ => false

theorem IIs.eq_spec : ∀ {a b : List II}, IIs.eq a b = true → a = b
  | [], [], _ => rfl
  | a :: k, b :: k', h => by
    simp only [IIs.eq, Bool.and_eq_true] at h
    rw [II.eq_spec h.1, IIs.eq_spec h.2]
  | [], _ :: _, h => by cases h
  | _ :: _, [], h => by cases h

/-- Control goes from k to k'. -/
def ctlE (fc : Code) (tm : List (Nat × D)) (k' : List II) : Nat → List II → Bool
  | 0, _ => false
  | n + 1, k => if k.length == k'.length && IIs.eq k k' then true else match ctl1 fc tm k with
    | some k2 => ctlE fc tm k' n k2
    | none => false

theorem ctlE_spec {fc : Code} {tm : List (Nat × D)} {k' : List II} : ∀ (n : Nat) (k : List II), ctlE fc tm k' n k = true → ∃ m, ctlN fc tm m k = some k'
  | 0, k, h => by cases h
  | n + 1, k, h => by
    unfold ctlE at h
    split at h
    · rename_i e
      simp only [Bool.and_eq_true] at e
      exact ⟨0, by simp only [ctlN]; rw [IIs.eq_spec e.2]⟩
    · split at h
      · rename_i k2 hk2
        obtain ⟨m, hm⟩ := ctlE_spec n k2 h
        exact ⟨m + 1, by simp only [ctlN, hk2]; exact hm⟩
      · cases h

/-- Control goes back to the caller. -/
def ctlR (fc : Code) (tm : List (Nat × D)) : Nat → List II → Bool
  | 0, _ => false
  | n + 1, k => match k with
    | [] => true
    | .c q :: r => match sub fc q with
      | .ret => true
      | _ => match ctl1 fc tm (.c q :: r) with
        | some k2 => ctlR fc tm n k2
        | none => false
    | k => match ctl1 fc tm k with
      | some k2 => ctlR fc tm n k2
      | none => false

theorem ctlR_spec {fc : Code} {tm : List (Nat × D)} : ∀ (n : Nat) (k : List II), ctlR fc tm n k = true → ∃ m k', ctlN fc tm m k = some k' ∧ (k' = [] ∨ ∃ p k'', k' = .c p :: k'' ∧ sub fc p = .ret)
  | 0, k, h => by cases h
  | n + 1, k, h => by
    unfold ctlR at h
    split at h
    · exact ⟨0, [], rfl, .inl rfl⟩
    · rename_i q r
      split at h
      · rename_i hs
        exact ⟨0, _, rfl, .inr ⟨q, r, rfl, hs⟩⟩
      · split at h
        · rename_i k2 hk2
          obtain ⟨m, k', h1, h2⟩ := ctlR_spec n k2 h
          exact ⟨m + 1, k', by simp only [ctlN, hk2]; exact h1, h2⟩
        · cases h
    · split at h
      · rename_i k2 hk2
        obtain ⟨m, k', h1, h2⟩ := ctlR_spec n k2 h
        exact ⟨m + 1, k', by simp only [ctlN, hk2]; exact h1, h2⟩
      · cases h

section
variable {Γ : Ctx} {fc : Code} {k : List II} {σ : St} {T : Type} {K : T → Option (D × List Ent)}

theorem orcN {p : Nat} : OrcV Γ fc p [] := trivial

/-- Control comes to a region. -/
def ctlG (fc : Code) (tm : List (Nat × D)) (p : Nat) (k : List II) : Bool := match ctlT fc tm p 60 k with
  | some r => IIs.eq r (aft fc p)
  | none => false

/-- Control up to a region, and the region. -/
theorem J_g {e : Option T} (p : Nat) (ids : List (Nat × Nat)) (tm2 : List (Nat × D)) (hp2 : List (Nat × Ent)) {orc : List (Nat × Cert)} (hor : OrcV Γ fc p orc) (hj : J Γ fc (aft fc p) (St.mk' tm2 hp2) e K)
    (h : (ctlG fc σ.tm p k && Γ.P.follows .mixedOrders, (chk Γ.P Γ.nt Γ.m fc p orc ids σ tm2 hp2).1, (chk Γ.P Γ.nt Γ.m fc p orc ids σ tm2 hp2).2.2.1, (chk Γ.P Γ.nt Γ.m fc p orc ids σ tm2 hp2).2.2.2.2) =
      (true, (chk Γ.P Γ.nt Γ.m fc p orc ids σ tm2 hp2).2.1, (chk Γ.P Γ.nt Γ.m fc p orc ids σ tm2 hp2).2.2.2.1, true) := by kernel_rfl) : J Γ fc k σ e K := by
  simp only [Prod.mk.injEq, Bool.and_eq_true] at h
  obtain ⟨⟨h0, hm⟩, h1, h2, h3⟩ := h
  unfold ctlG at h0
  split at h0
  · rename_i r hr
    obtain ⟨m, hm2⟩ := ctlT_spec _ _ _ hr
    rw [IIs.eq_spec h0] at hm2
    refine J_ctl m _ hm2 (J_run orc ids tm2 hp2 hm hor ?_ hj)
    simp only [Prod.mk.injEq]
    exact ⟨h1, h2, h3⟩
  · cases h0

/-- The told function forks with the text. -/
theorem J_if {b : Bool} {x y : Option T} (t : Nat) (hl : lk σ.tm t = some (.sc (.bool b)) := by kernel_rfl) (h1 : b = true → J Γ fc k ⟨(t, .sc (.bool true)) :: σ.tm, σ.hp, σ.us⟩ x K) (h2 : b = false → J Γ fc k ⟨(t, .sc (.bool false)) :: σ.tm, σ.hp, σ.us⟩ y K) :
    J Γ fc k σ (if b then x else y) K := by
  cases b with
  | true => exact J_lit true hl rfl (h1 rfl)
  | false => exact J_lit false hl rfl (h2 rfl)

/-- Less is known, and control goes on. -/
theorem J_wc {e : Option T} {k' : List II} {tm2 : List (Nat × D)} {hp2 : List (Nat × Ent)} (hj : J Γ fc k' (St.mk' tm2 hp2) e K)
    (h : (ctlE fc σ.tm k' 60 k, tm2.map (fun x => lk σ.tm x.1), hp2.map (fun x => lk σ.hp x.1), nodupK (hp2.map (·.1))) = (true, tm2.map (fun x => some x.2), hp2.map (fun x => some x.2), true) := by kernel_rfl) : J Γ fc k σ e K := by
  simp only [Prod.mk.injEq] at h
  obtain ⟨m, hm⟩ := ctlE_spec _ _ h.1
  refine J_ctl m _ hm (J_wk tm2 hp2 ?_ hj)
  simp only [Prod.mk.injEq]
  exact h.2

/-- Round again. -/
theorem J_b {S : Type} {g : S → Option T} {s : S} {k' : List II} {tm2 : List (Nat × D)} {hp2 : List (Nat × Ent)} (hj : J Γ fc k' (St.mk' tm2 hp2) (g s) K)
    (h : (ctlE fc σ.tm k' 60 k, tm2.map (fun x => lk σ.tm x.1), hp2.map (fun x => lk σ.hp x.1), nodupK (hp2.map (·.1))) = (true, tm2.map (fun x => some x.2), hp2.map (fun x => some x.2), true) := by kernel_rfl) :
    J Γ fc k σ (some (Lp.go s)) (fun x => (Lp.elim g x).bind K) := J_bk (J_wc hj h)

/-- On to where ways meet, or out. -/
theorem J_qw {V : Type} {v : V} {w : T} {K0 : V → Option (D × List Ent)} {k' : List II} {tm2 : List (Nat × D)} {hp2 : List (Nat × Ent)} (hj : J Γ fc k' (St.mk' tm2 hp2) (some v) K0) (hK : K w = K0 v)
    (h : (ctlE fc σ.tm k' 60 k, tm2.map (fun x => lk σ.tm x.1), hp2.map (fun x => lk σ.hp x.1), nodupK (hp2.map (·.1))) = (true, tm2.map (fun x => some x.2), hp2.map (fun x => some x.2), true) := by kernel_rfl) :
    J Γ fc k σ (some w) K := J_q (J_wc hj h) hK

/-- Into a loop. -/
theorem J_lq {U : Type} {y : Option U} {f : U → Option T} {k' : List II} {tm2 : List (Nat × D)} {hp2 : List (Nat × Ent)} (hj : J Γ fc k' (St.mk' tm2 hp2) y (fun x => (f x).bind K))
    (h : (ctlE fc σ.tm k' 60 k, tm2.map (fun x => lk σ.tm x.1), hp2.map (fun x => lk σ.hp x.1), nodupK (hp2.map (·.1))) = (true, tm2.map (fun x => some x.2), hp2.map (fun x => some x.2), true) := by kernel_rfl) :
    J Γ fc k σ (y.bind f) K := J_bindK (J_wc hj h)

theorem J_lqF {R V : Type} {y : Option (Fl R V)} {K0 : R → Option (D × List Ent)} {fr : R → Option T} {rest : V → Option T} {k' : List II} {tm2 : List (Nat × D)} {hp2 : List (Nat × Ent)} (hr : ∀ r, (fr r).bind K = K0 r)
    (hj : J Γ fc k' (St.mk' tm2 hp2) y (Fl.go K0 (fun v => (rest v).bind K)))
    (h : (ctlE fc σ.tm k' 60 k, tm2.map (fun x => lk σ.tm x.1), hp2.map (fun x => lk σ.hp x.1), nodupK (hp2.map (·.1))) = (true, tm2.map (fun x => some x.2), hp2.map (fun x => some x.2), true) := by kernel_rfl) :
    J Γ fc k σ (y.bind (Fl.go fr rest)) K := J_loop hr (J_wc hj h)

/-! ### Going back -/
def rsOf (P : Program) (f : FuncId) : List ResultVar := match P.funcs[f]? with
  | some fn => fn.results.toList
  | none => []

theorem funcs_rs {P : Program} {f : FuncId} (h : (P.funcs[f]?).isSome = true) : ∃ fn, P.funcs[f]? = some fn ∧ fn.results.toList = rsOf P f := by
  unfold rsOf
  cases hf : P.funcs[f]? with
  | none => rw [hf] at h; cases h
  | some fn => exact ⟨fn, rfl, rfl⟩

/-- Nothing in it moves. -/
def D.plain : D → Bool
  | .ag cs => cs.all D.nest
  | d => d.nest

theorem Ret.plain {hn : List (Nat × Ent)} {d : D} (h : d.plain = true) : Ret hn d d [] := by
  cases d with
  | ag cs => exact .ag (Emb.all_keep hn cs h)
  | _ => exact .cell (.keep h .nil)

theorem Rets.plain {hn : List (Nat × Ent)} : ∀ {ds : List D}, ds.all D.plain = true → Rets hn ds ds []
  | [], _ => .nil
  | d :: ds, h => by
    simp only [List.all_cons, Bool.and_eq_true] at h
    exact .cons (t1 := []) (Ret.plain h.1) (Rets.plain h.2) (by simp)

theorem nest_men : ∀ {cs : List D}, cs.all D.nest = true → D.men.menL cs = []
  | [], _ => rfl
  | d :: cs, h => by
    simp only [List.all_cons, Bool.and_eq_true] at h
    simp only [D.men.menL, nest_men h.2, List.append_nil]
    have := h.1
    cases d <;> simp_all [D.nest, D.men]

theorem plain_men : ∀ {ds : List D}, ds.all D.plain = true → D.men.menL ds = []
  | [], _ => rfl
  | d :: ds, h => by
    simp only [List.all_cons, Bool.and_eq_true] at h
    simp only [D.men.menL, plain_men h.2, List.append_nil]
    have := h.1
    cases d with
    | ag cs => simp only [D.men]; exact nest_men this
    | _ => simp_all [D.plain, D.nest, D.men]

def retChk (Γ : Ctx) (fc : Code) (k : List II) (σ : St) (hout : List Ent) : Bool × Option (List D) × List (Option Ent) × Bool × List Nat × Bool :=
  (ctlR fc σ.tm 60 k, resL Γ.P σ.tm σ.hp (rsOf Γ.P Γ.fid), (enumE hout).map (fun x => lk σ.hp x.1), Nat.ble hout.length Γ.m, hout.flatMap Ent.men, (Γ.P.funcs[Γ.fid]?).isSome)

theorem J_rm {v : T} {ds ds' : List D} {ts : List Nat} {hout : List Ent} (hret : Rets σ.hp ds ds' ts) (hK : K v = some (outD ds', hout))
    (h : (retChk Γ fc k σ hout, D.men.menL ds', ts.all (fun t => Nat.ble hout.length t)) = ((true, some ds, (enumE hout).map (fun x => some x.2), true, [], true), [], true) := by kernel_rfl) : J Γ fc k σ (some v) K := by
  simp only [retChk, Prod.mk.injEq] at h
  obtain ⟨⟨h1, h2, h3, h4, h5, h6⟩, h7, h8⟩ := h
  obtain ⟨m, k', g1, g2⟩ := ctlR_spec _ _ h1
  obtain ⟨fn, g3, g4⟩ := funcs_rs h6
  refine J_ctl m k' g1 (J_ret g2 g3 g4 (resL_spec h2) hret (fun x hx => ⟨facts_of h3 x hx, fun ht => ?_⟩) (Nat.le_of_ble_eq_true h4) (by rw [h7]; simp) (fun e he t ht => ?_) hK)
  · have h1 := Nat.le_of_ble_eq_true (List.all_eq_true.1 h8 _ ht)
    have h2 := (List.getElem?_eq_some_iff.1 (enumE_get.1 hx)).1
    omega
  · have : t ∈ hout.flatMap Ent.men := List.mem_flatMap.2 ⟨e, he, ht⟩
    rw [h5] at this
    simp at this

theorem J_r1 {v : T} {d : D} {hout : List Ent} (hK : K v = some (d, hout))
    (h : (retChk Γ fc k σ hout, d.plain) = ((true, some [d], (enumE hout).map (fun x => some x.2), true, [], true), true) := by kernel_rfl) : J Γ fc k σ (some v) K := by
  simp only [Prod.mk.injEq] at h
  have hp : [d].all D.plain = true := by simpa using h.2
  refine J_rm (ds := [d]) (ds' := [d]) (ts := []) (Rets.plain hp) hK ?_
  simp only [Prod.mk.injEq]
  exact ⟨h.1, plain_men hp, rfl⟩

theorem outD_two {d1 d2 : D} {ds : List D} : outD (d1 :: d2 :: ds) = .tu (d1 :: d2 :: ds) := rfl

theorem J_rT {v : T} {ds : List D} {hout : List Ent} (hK : K v = some (.tu ds, hout))
    (h : (retChk Γ fc k σ hout, ds.all D.plain, ds.length == 1) = ((true, some ds, (enumE hout).map (fun x => some x.2), true, [], true), true, false) := by kernel_rfl) : J Γ fc k σ (some v) K := by
  simp only [Prod.mk.injEq] at h
  obtain ⟨h1, hp, hl⟩ := h
  have : outD ds = .tu ds := by
    match ds, hl with
    | [], _ => rfl
    | d1 :: d2 :: ds, _ => rfl
  refine J_rm (ds := ds) (ds' := ds) (ts := []) (Rets.plain hp) (by rw [this]; exact hK) ?_
  simp only [Prod.mk.injEq]
  exact ⟨h1, plain_men hp, rfl⟩
end

/-! ### What is told of operations -/
def OpV (Γ : Ctx) (op : Op) (c : Cert) : Prop := ∀ (ops : Array Oper) (o : Oper), o.op = op → o.guard = none → Valid Γ ops o c
def OpVd (Γ : Ctx) (op : Op) (c : Cert) : Prop := ∀ (ops : Array Oper) (o : Oper), o.op = op → o.guard = none → o.dst = none → Valid Γ ops o c

section
variable {Γ : Ctx} {fc : Code} {p : Nat}

theorem orcC {rest : List (Nat × Cert)} {op : Op} {c : Cert} (i : Nat) (hv : OpV Γ op c) (hr : OrcV Γ fc p rest) (h : (opAt fc p i).map (fun o => (o.op, o.guard)) = some (op, none) := by kernel_rfl) : OrcV Γ fc p ((i, c) :: rest) :=
  ⟨orc1 h hv, hr⟩

theorem orcD {rest : List (Nat × Cert)} {op : Op} {c : Cert} (i : Nat) (hv : OpVd Γ op c) (hr : OrcV Γ fc p rest) (h : (opAt fc p i).map (fun o => (o.op, o.guard, o.dst)) = some (op, none, none) := by kernel_rfl) : OrcV Γ fc p ((i, c) :: rest) :=
  ⟨orc1d h hv, hr⟩

theorem orcH {rest : List (Nat × Cert)} {op : Op} {c : Cert} (i g t : Nat) (b : Bool) (hv : OpV Γ op c) (hr : OrcV Γ fc p rest) (h : ((opAt fc p i).map (fun o => (o.op, o.guard)), dstAt fc p g) = (some (op, some (g, b)), some t) := by kernel_rfl) :
    OrcV Γ fc p ((i, { c with tn := (t, .sc (.bool b)) :: c.tn }) :: rest) := by
  simp only [Prod.mk.injEq] at h
  exact ⟨orcG h.1 h.2 hv, hr⟩

theorem orcV {rest : List (Nat × Cert)} {c : Cert} (i : Nat) (hv : ∀ id ops draw, sub fc p = .region id ops draw → ∀ o, ops[i]? = some o → Valid Γ ops o c) (hr : OrcV Γ fc p rest) : OrcV Γ fc p ((i, c) :: rest) := ⟨hv, hr⟩

/-- A literal in the place of what it is. -/
theorem x_lit {op : Op} {tn : List (Nat × D)} {hn : List (Nat × Ent)} {b b' : Bool} {hx : List Nat} {hw : List (Nat × Ent)} {fr : List Nat} (h : b = b') (hv : OpV Γ op { tn := tn, hn := hn, out := some (.sc (.bool b)), hx := hx, hw := hw, fr := fr }) :
    OpV Γ op { tn := tn, hn := hn, out := some (.sc (.bool b')), hx := hx, hw := hw, fr := fr } := h ▸ hv

def tnO (x : Operand) (d : D) : List (Nat × D) := match x with
  | .tmp t => [(t, d)]
  | _ => []

def OkO (x : Operand) (d : D) : Prop := match x with
  | .tmp _ => True
  | .const v => d = .sc v
  | .func f => d = .fn f []
  | .global _ => False

theorem OkO.f {c : Cert} {x : Operand} {d : D} (h : OkO x d) (hs : ∀ y ∈ tnO x d, y ∈ c.tn) : OpF c x d := by
  cases x with
  | tmp t => exact hs _ (by simp [tnO])
  | const v => exact h
  | func f => exact h
  | global g => exact h.elim

theorem x_ix {α : Type} {xs : List α} {i : Int} {a : α} {kk : IntKind} (T el z : Nat) (enc : α → List D) (x y : Operand) (h : idx xs i = some a) (hx : OkO x (.s false z xs.length (xs.map enc)) := by trivial) (hy : OkO y (.sc (.int kk i)) := by first | trivial | rfl)
    (hT : (pureSem Γ.P (underlying T), szOf Γ.P el) = (some (.slice el), some z) := by kernel_rfl) : OpV Γ (.indexAddr T x y) { tn := tnO x (.s false z xs.length (xs.map enc)) ++ tnO y (.sc (.int kk i)), out := some (.ps (enc a)) } := by
  simp only [Prod.mk.injEq] at hT
  intro ops o hop hg
  exact o_index h hg hop rfl (hx.f (fun y hy => List.mem_append_left _ hy)) (hy.f (fun y hy => List.mem_append_right _ hy)) hT.1 hT.2

theorem x_ixr {α : Type} {xs : List α} {i : Int} {a : α} {kk : IntKind} (T el z t : Nat) (enc : α → List D) (x y : Operand) (h : idx xs i = some a) (hx : OkO x (.rf t 0 xs.length none) := by trivial) (hy : OkO y (.sc (.int kk i)) := by first | trivial | rfl)
    (hT : (pureSem Γ.P (underlying T), szOf Γ.P el) = (some (.slice el), some z) := by kernel_rfl) :
    OpV Γ (.indexAddr T x y) { tn := tnO x (.rf t 0 xs.length none) ++ tnO y (.sc (.int kk i)), hn := [(t, rE z enc xs)], out := some (.pt t i.toNat 0) } := by
  simp only [Prod.mk.injEq] at hT
  intro ops o hop hg
  exact o_index_rf h hg hop rfl (hx.f (fun y hy => List.mem_append_left _ hy)) (hy.f (fun y hy => List.mem_append_right _ hy)) (.head _) hT.1 hT.2

theorem x_ixl {α : Type} {xs : List α} {i : Int} {a : α} {kk : IntKind} (T el z t : Nat) (enc : α → List D) (x y : Operand) (a0 b0 t' n' : Nat) (h : idx xs i = some a) (hx : OkO x (.rf t 0 xs.length none) := by trivial) (hy : OkO y (.sc (.int kk i)) := by first | trivial | rfl)
    (hT : (pureSem Γ.P (underlying T), szOf Γ.P el) = (some (.slice el), some z) := by kernel_rfl) :
    OpV Γ (.indexAddr T x y) { tn := tnO x (.rf t 0 xs.length none) ++ tnO y (.sc (.int kk i)), hn := [(t, .lent z (xs.map enc) a0 b0 t' n')], out := some (.pt t i.toNat 0) } := by
  simp only [Prod.mk.injEq] at hT
  intro ops o hop hg
  exact o_index_lent h hg hop rfl (hx.f (fun y hy => List.mem_append_left _ hy)) (hy.f (fun y hy => List.mem_append_right _ hy)) (.head _) hT.1 hT.2

theorem x_ldl {α : Type} (T t : Nat) (x : Operand) (z : Nat) (enc : α → List D) (xs : List α) (i j t' n : Nat) (hd : ofCells Γ.P T [.rf t' 0 n none] = some (.rf t' 0 n none) := by kernel_rfl) (hx : OkO x (.pt t i j) := by trivial) :
    OpV Γ (.load T x) { tn := tnO x (.pt t i j), hn := [(t, .lent z (xs.map enc) i j t' n)], out := some (.rf t' 0 n none) } := by
  intro ops o hop hg
  exact o_load_lent hg hop rfl (hx.f (fun y hy => hy)) (.head _) hd

theorem x_ldr {α : Type} {xs : List α} {i : Int} {a : α} {d : D} (T z t j : Nat) (enc : α → List D) (x : Operand) (h : idx xs i = some a) (hd : (((enc a).drop j).all okCell, ofCells Γ.P T ((enc a).drop j)) = (true, some d)) (hx : OkO x (.pt t i.toNat j) := by trivial) :
    OpV Γ (.load T x) { tn := tnO x (.pt t i.toNat j), hn := [(t, rE z enc xs)], out := some d } := by
  simp only [Prod.mk.injEq] at hd
  intro ops o hop hg
  exact o_load_row h hg hop rfl (hx.f (fun y hy => hy)) (.head _) hd.1 hd.2

theorem x_bi {s : ByteArray} {i b : Int} {kk : IntKind} (T : Nat) (x y : Operand) (h : bidx s i = some b) (hx : OkO x (.sc (.string s)) := by first | trivial | rfl) (hy : OkO y (.sc (.int kk i)) := by first | trivial | rfl) (hT : pureSem Γ.P (underlying T) = some .string := by kernel_rfl) :
    OpV Γ (.index T x y) { tn := tnO x (.sc (.string s)) ++ tnO y (.sc (.int kk i)), out := some (.sc (.int .u8 b)) } := by
  intro ops o hop hg
  exact o_bidx h hg hop rfl (hx.f (fun y hy => List.mem_append_left _ hy)) (hy.f (fun y hy => List.mem_append_right _ hy)) hT

theorem x_cat {s1 s2 s : ByteArray} (T U : Nat) (x y : Operand) (h : cat s1 s2 = some s) (hx : OkO x (.sc (.string s1)) := by first | trivial | rfl) (hy : OkO y (.sc (.string s2)) := by first | trivial | rfl) :
    OpV Γ (.binOp .add T x y U) { tn := tnO x (.sc (.string s1)) ++ tnO y (.sc (.string s2)), out := some (.sc (.string s)) } := by
  intro ops o hop hg
  exact o_concat h hg hop rfl (hx.f (fun y hy => List.mem_append_left _ hy)) (hy.f (fun y hy => List.mem_append_right _ hy))

theorem x_nileq {α : Type} {xs : List α} (T el U z : Nat) (enc : α → List D) (x : Operand) (hx : OkO x (.s false z xs.length (xs.map enc)) := by trivial) (hT : pureSem Γ.P (underlying T) = some (.slice el) := by kernel_rfl) :
    OpV Γ (.binOp .eql T x (.const (.slice none 0 0)) U) { tn := tnO x (.s false z xs.length (xs.map enc)), out := some (.nb xs.length) } := by
  intro ops o hop hg
  exact v_nileq hg hop rfl (hx.f (fun y hy => hy)) hT

def tnB (x : Option Operand) (i : Int) : List (Nat × D) := match x with
  | some y => tnO y (.sc (.int .i64 i))
  | none => []
def OkB (x : Option Operand) (dflt i : Int) : Prop := match x with
  | some y => OkO y (.sc (.int .i64 i))
  | none => i = dflt

theorem OkB.f {c : Cert} {x : Option Operand} {dflt : Nat} {i : Int} (h : OkB x dflt i) (hs : ∀ y ∈ tnB x i, y ∈ c.tn) : BndI c x dflt i := by
  cases x with
  | none => exact h
  | some y => exact ⟨_, OkO.f (d := .sc (.int .i64 i)) h hs⟩

theorem x_ss {s r : ByteArray} {l hi : Int} (T : Nat) (x : Operand) (lo ho : Option Operand) (h : ssub s l hi = some r) (hx : OkO x (.sc (.string s)) := by first | trivial | rfl) (hl : OkB lo (0 : Nat) l := by first | trivial | rfl) (hh : OkB ho s.size hi := by first | trivial | rfl) (hT : pureSem Γ.P (underlying T) = some .string := by kernel_rfl) :
    OpV Γ (.slice T x lo ho none) { tn := tnO x (.sc (.string s)) ++ (tnB lo l ++ tnB ho hi), out := some (.sc (.string r)) } := by
  intro ops o hop hg
  exact o_ssub h hg hop rfl (hx.f (fun y hy => List.mem_append_left _ hy)) (hl.f (fun y hy => List.mem_append_right _ (List.mem_append_left _ hy))) (hh.f (fun y hy => List.mem_append_right _ (List.mem_append_right _ hy))) hT

theorem x_ls {α : Type} {xs r : List α} {l hi : Int} (T el z : Nat) (enc : α → List D) (x : Operand) (lo ho : Option Operand) (h : lsub xs l hi = some r) (hx : OkO x (.s false z xs.length (xs.map enc)) := by first | trivial | rfl) (hl : OkB lo (0 : Nat) l := by first | trivial | rfl) (hh : OkB ho xs.length hi := by first | trivial | rfl)
    (hT : (pureSem Γ.P (underlying T), szOf Γ.P el) = (some (.slice el), some z) := by kernel_rfl) :
    OpV Γ (.slice T x lo ho none) { tn := tnO x (.s false z xs.length (xs.map enc)) ++ (tnB lo l ++ tnB ho hi), out := some (.s false z r.length (r.map enc)) } := by
  simp only [Prod.mk.injEq] at hT
  intro ops o hop hg
  exact o_lsub h hg hop rfl (hx.f (fun y hy => List.mem_append_left _ hy)) (hl.f (fun y hy => List.mem_append_right _ (List.mem_append_left _ hy))) (hh.f (fun y hy => List.mem_append_right _ (List.mem_append_right _ hy))) hT.1 hT.2
end
end Go.Im

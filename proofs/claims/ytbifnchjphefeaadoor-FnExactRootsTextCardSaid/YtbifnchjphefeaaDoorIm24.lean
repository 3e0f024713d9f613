import Derived.Test.YtbifnchjphefeaaDoorIm23
set_option linter.unusedVariables false
namespace Go.Im
open Go

/-! ### What the told functions are made of -/
def idx {α : Type} (xs : List α) (i : Int) : Option α := if 0 ≤ i then xs[i.toNat]? else none
def bidx (s : ByteArray) (i : Int) : Option Int := if 0 ≤ i then (s[i.toNat]?).map (fun b => (b.toNat : Int)) else none
def app {α : Type} (bytes : Nat) (xs ys : List α) : Option (List α) := if (xs.length + ys.length) * bytes ≤ 140737488355328 ∧ xs.length + ys.length ≤ 4611686018427387904 then some (xs ++ ys) else none
def cat (s t : ByteArray) : Option ByteArray := if s.size + t.size ≤ 1099511627776 then some (s ++ t) else none
def ssub (s : ByteArray) (l h : Int) : Option ByteArray := if 0 ≤ l ∧ l ≤ h ∧ h ≤ s.size then some (s.extract l.toNat h.toNat) else none
def lsub {α : Type} (s : List α) (l h : Int) : Option (List α) := if 0 ≤ l ∧ l ≤ h ∧ h ≤ s.length then some ((s.drop l.toNat).take (h.toNat - l.toNat)) else none
abbrev seq (a b : ByteArray) : Bool := a.toList == b.toList
abbrev slt (a b : ByteArray) : Bool := Op.bytesLess a.toList b.toList

def eI64 (v : Int) : List D := [.sc (.int .i64 v)]
def eU8 (v : Int) : List D := [.sc (.int .u8 v)]
def eB (v : Bool) : List D := [.sc (.bool v)]
def eStr (v : ByteArray) : List D := [.sc (.string v)]
def eSl {α : Type} (o : Bool) (z : Nat) (f : α → List D) (xs : List α) : List D := [.s o z xs.length (xs.map f)]

section
variable {Γ : Ctx} {fc : Code} {k : List II} {σ : St} {T U : Type} {K : T → Option (D × List Ent)}

theorem J_fork {e : Option T} (b : Bool) (h1 : b = true → J Γ fc k σ e K) (h2 : b = false → J Γ fc k σ e K) : J Γ fc k σ e K := by
  cases b with
  | true => exact h1 rfl
  | false => exact h2 rfl

theorem J_st {σ' : St} {e : Option T} (h : σ = σ') (hj : J Γ fc k σ' e K) : J Γ fc k σ e K := by subst h; exact hj

theorem J_j {V : Type} {v : V} {rest : V → Option T} (h : J Γ fc k σ (rest v) K) : J Γ fc k σ (some v) (fun v => (rest v).bind K) :=
  J_next (q := fun v => v) (fun out ho => Option.bind_eq_some_iff.1 ho) h

theorem J_loop {R V : Type} {y : Option (Fl R V)} {K0 : R → Option (D × List Ent)} {fr : R → Option T} {rest : V → Option T} (hr : ∀ r, (fr r).bind K = K0 r)
    (h : J Γ fc k σ y (Fl.go K0 (fun v => (rest v).bind K))) : J Γ fc k σ (y.bind (Fl.go fr rest)) K := by
  refine J_bindK ?_
  have e : (fun x => (Fl.go fr rest x).bind K) = Fl.go K0 (fun v => (rest v).bind K) := by
    funext x
    cases x with
    | ret r => exact hr r
    | nxt v => rfl
  rw [e]
  exact h

theorem J_join {V : Type} {y : Option V} {rest : V → Option T} (k' : List II) (σ' : V → St) (hj : ∀ v, J Γ fc k' (σ' v) (rest v) K) (h : (∀ v, J Γ fc k' (σ' v) (rest v) K) → J Γ fc k σ y (fun v => (rest v).bind K)) : J Γ fc k σ (y.bind rest) K :=
  J_bindK (h hj)

theorem J_joinF {R V : Type} {y : Option (Fl R V)} {fr : R → Option T} {rest : V → Option T} (k' : List II) (σ' : V → St) (hj : ∀ v, J Γ fc k' (σ' v) (rest v) K) (h : (∀ v, J Γ fc k' (σ' v) (rest v) K) → J Γ fc k σ y (fun x => (Fl.go fr rest x).bind K)) :
    J Γ fc k σ (y.bind (Fl.go fr rest)) K := J_bindK (h hj)

theorem J_lit {e : Option T} {t : Nat} {b : Bool} (b' : Bool) (hl : lk σ.tm t = some (.sc (.bool b))) (h : b = b') (hj : J Γ fc k ⟨(t, .sc (.bool b')) :: σ.tm, σ.hp, σ.us⟩ e K) : J Γ fc k σ e K := by
  subst h
  refine J_weak (fun a w hr => ?_) hj
  have hm := lk_mem hl
  exact Rel.weak (σ' := ⟨_, σ.hp, σ.us⟩) hr (fun x hx => by rcases List.mem_cons.1 hx with rfl | hx; exact hm; exact hx) (fun x hx => hx) hr.2.choose_spec.choose_spec.keys (fun t' ht' => by
    refine hr.1 t' ?_
    rcases ht' with ht' | ht'
    · simp only [menT, List.flatMap_cons, D.men, List.nil_append] at ht'
      exact .inl ht'
    · exact .inr ht')

/-- Only this much is known on. -/
theorem J_wk {e : Option T} (tm2 : List (Nat × D)) (hp2 : List (Nat × Ent)) (h : (tm2.map (fun x => lk σ.tm x.1), hp2.map (fun x => lk σ.hp x.1), nodupK (hp2.map (·.1))) = (tm2.map (fun x => some x.2), hp2.map (fun x => some x.2), true))
    (hj : J Γ fc k (St.mk' tm2 hp2) e K) : J Γ fc k σ e K := by
  simp only [Prod.mk.injEq] at h
  obtain ⟨h1, h2, h3⟩ := h
  refine J_weak (fun a w hr => ?_) hj
  exact Rel.weak hr (facts_of h1) (facts_of h2) (nodupK_spec h3) (fun t ht => by simpa [St.mk'] using ht)

theorem J_fix {A : Type} {F : A → Option T} {body : (A → Option T) → A → Option T} {σ : A → St}
    (hpc : ∀ (motive : A → T → Prop), (∀ g : A → Option T, (∀ x r, g x = some r → motive x r) → ∀ x r, body g x = some r → motive x r) → ∀ x r, F x = some r → motive x r)
    (h : ∀ g : A → Option T, (∀ x, J Γ fc k (σ x) (g x) K) → ∀ x, J Γ fc k (σ x) (body g x) K) : ∀ x, J Γ fc k (σ x) (F x) K := by
  intro x r out he hk a w hrel
  refine hpc (fun x r => ∀ out, K r = some out → ∀ a w, Rel Γ (σ x) a w → Goes Γ (k.map (II.item fc)) (Post Γ out.1 out.2) a w) ?_ x r he out hk a w hrel
  intro g hg x r he out hk a w hrel
  exact h g (fun x r out he hk a w hrel => hg x r he out hk a w hrel) x r out he hk a w hrel
end

section
variable {Γ : Ctx} {fc : Code}

/-- An easy operation, told with what it gives rewritten. -/
theorem orcA {p i : Nat} {id : Option Nat} (tm : List (Nat × D)) (hp : List (Nat × Ent)) (c0 : Cert) {c : Cert} (h : (opAt fc p i).map (fun o => (o.guard, ac0 Γ.P id o ⟨tm, hp, []⟩)) = some (none, some c0)) (hf : c0.fr = []) (hc : c0 = c) :
    ∀ id ops draw, sub fc p = .region id ops draw → ∀ o, ops[i]? = some o → Valid Γ ops o c := by
  intro id' ops draw hs o ho
  have e : opAt fc p i = some o := by unfold opAt; rw [hs]; exact ho
  rw [e] at h
  simp only [Option.map_some, Option.some.injEq, Prod.mk.injEq] at h
  subst hc
  exact (ac0_good h.1 h.2).v (by rw [hf]; simp)

/-- The same behind a guard that is met. -/
theorem orcAG {p i g t : Nat} {b : Bool} {id : Option Nat} (tm : List (Nat × D)) (hp : List (Nat × Ent)) (c0 : Cert) {c : Cert} (h : (opAt fc p i).map (fun o => (o.guard, ac0 Γ.P id { o with guard := none } ⟨tm, hp, []⟩)) = some (some (g, b), some c0)) (hd : dstAt fc p g = some t) (hf : c0.fr = [])
    (hc : { c0 with tn := (t, .sc (.bool b)) :: c0.tn } = c) : ∀ id ops draw, sub fc p = .region id ops draw → ∀ o, ops[i]? = some o → Valid Γ ops o c := by
  intro id' ops draw hs o ho
  have e : opAt fc p i = some o := by unfold opAt; rw [hs]; exact ho
  rw [e] at h
  simp only [Option.map_some, Option.some.injEq, Prod.mk.injEq] at h
  subst hc
  refine valid_guard h.1 ?_ rfl ((ac0_good (o := { o with guard := none }) rfl h.2).v (by rw [hf]; simp))
  unfold dstAt opAt at hd
  rw [hs] at hd
  exact hd
end

section
variable {Γ : Ctx} {ops : Array Oper} {o : Oper}

theorem idx_some {α : Type} {xs : List α} {i : Int} {a : α} (h : idx xs i = some a) : 0 ≤ i ∧ xs[i.toNat]? = some a := by
  unfold idx at h
  split at h
  · exact ⟨by assumption, h⟩
  · cases h

theorem o_index {c : Cert} {x y : Operand} {T el : TypeId} {k : IntKind} {z : Nat} {i : Int} {α : Type} {enc : α → List D} {xs : List α} {a : α} (h : idx xs i = some a) (hg : o.guard = none) (hop : o.op = .indexAddr T x y)
    (hc : c = { tn := c.tn, out := some (.ps (enc a)) }) (hx : OpF c x (.s false z xs.length (xs.map enc))) (hy : OpF c y (.sc (.int k i))) (hT : pureSem Γ.P (underlying T) = some (.slice el)) (hz : szOf Γ.P el = some z) : Valid Γ ops o c := by
  obtain ⟨h1, h2⟩ := idx_some h
  exact v_index hg hop hc hx hy hT hz h1 (by rw [List.getElem?_map, h2]; rfl)

theorem o_index_rf {c : Cert} {x y : Operand} {T el : TypeId} {k : IntKind} {z t : Nat} {i : Int} {cap : Option Nat} {α : Type} {enc : α → List D} {xs : List α} {a : α} (h : idx xs i = some a) (hg : o.guard = none) (hop : o.op = .indexAddr T x y)
    (hc : c = { tn := c.tn, hn := c.hn, out := some (.pt t i.toNat 0) }) (hx : OpF c x (.rf t 0 xs.length cap)) (hy : OpF c y (.sc (.int k i))) (hh : (t, .row z (xs.map enc)) ∈ c.hn) (hT : pureSem Γ.P (underlying T) = some (.slice el)) (hz : szOf Γ.P el = some z) : Valid Γ ops o c := by
  obtain ⟨h1, h2⟩ := idx_some h
  have := (List.getElem?_eq_some_iff.1 h2).1
  exact v_index_rf (off := 0) hg hop hc hx hy hT hz h1 (by omega) (by omega) hh

theorem o_load_row {c : Cert} {x : Operand} {T : TypeId} {z t j : Nat} {i : Int} {α : Type} {enc : α → List D} {xs : List α} {a : α} {d : D} (h : idx xs i = some a) (hg : o.guard = none) (hop : o.op = .load T x) (hc : c = { tn := c.tn, hn := c.hn, out := some d })
    (hx : OpF c x (.pt t i.toNat j)) (hh : (t, .row z (xs.map enc)) ∈ c.hn) (ho : ((enc a).drop j).all okCell = true) (hd : ofCells Γ.P T ((enc a).drop j) = some d) : Valid Γ ops o c := by
  obtain ⟨h1, h2⟩ := idx_some h
  exact v_load_row hg hop hc hx hh (by rw [List.getElem?_map, h2]; rfl) ho hd

theorem o_bidx {c : Cert} {x y : Operand} {T : TypeId} {k : IntKind} {s : ByteArray} {i b : Int} (h : bidx s i = some b) (hg : o.guard = none) (hop : o.op = .index T x y) (hc : c = { tn := c.tn, out := some (.sc (.int .u8 b)) })
    (hx : OpF c x (.sc (.string s))) (hy : OpF c y (.sc (.int k i))) (hT : pureSem Γ.P (underlying T) = some .string) : Valid Γ ops o c := by
  unfold bidx at h
  split at h
  · rename_i h0
    obtain ⟨b', h1, rfl⟩ := Option.map_eq_some_iff.1 h
    exact v_index_str hg hop hc rfl hx hy hT h0 h1
  · cases h

theorem o_concat {c : Cert} {x y : Operand} {T U : TypeId} {s1 s2 s : ByteArray} (h : cat s1 s2 = some s) (hg : o.guard = none) (hop : o.op = .binOp .add T x y U) (hc : c = { tn := c.tn, out := some (.sc (.string s)) })
    (hx : OpF c x (.sc (.string s1))) (hy : OpF c y (.sc (.string s2))) : Valid Γ ops o c := by
  unfold cat at h
  split at h
  · cases h; exact v_concat hg hop hc hx hy (by assumption)
  · cases h

theorem app_some {α : Type} {bytes : Nat} {xs ys zs : List α} (h : app bytes xs ys = some zs) : zs = xs ++ ys ∧ (xs.length + ys.length) * bytes ≤ 140737488355328 ∧ xs.length + ys.length ≤ 4611686018427387904 := by
  unfold app at h
  split at h
  · rename_i q; cases h; exact ⟨rfl, q⟩
  · cases h

/-- append(out, more...), both owned. -/
theorem o_append {c : Cert} {x y : Operand} {T U el e' : TypeId} {t td ts z bytes : Nat} {cd cs : Option Nat} {zv : Value} {α : Type} {enc : α → List D} {xs ys zs : List α} (h : app bytes xs ys = some zs) (hm : Γ.m ≤ t) (hne : td ≠ ts) (hone : ∀ a, (enc a).all okCell = true) (hg : o.guard = none)
    (hop : o.op = .call { callee := .builtin .append, args := #[x, y], argTypes := #[T, U] }) (hc : c = { tn := c.tn, hn := c.hn, out := some (.rf t 0 zs.length none), hx := [td, ts], hw := [(t, .row z (zs.map enc))], fr := [t] })
    (hx : OpF c x (.rf td 0 xs.length cd)) (hy : OpF c y (.rf ts 0 ys.length cs)) (hxr : (td, .row z (xs.map enc)) ∈ c.hn) (hyr : (ts, .row z (ys.map enc)) ∈ c.hn)
    (hT : Γ.P.underlying T = some (.slice el)) (hU : Γ.P.underlying U = some (.slice e')) (hinfo : (Γ.P.info? el).map (fun i => (i.zero, i.size, i.bytes)) = some (some zv, z, bytes)) (hzs : zv.cells.size = z) : Valid Γ ops o c := by
  obtain ⟨rfl, h1, h2⟩ := app_some h
  refine v_append (xs := xs.map enc) (ys := ys.map enc) hg hop ?_ hm hx hy hne hxr hyr (by simp) (by simp) hT hU hinfo hzs ?_ h1 h2
  · rw [hc]; simp
  · intro e he
    obtain ⟨a, _, rfl⟩ := List.mem_map.1 he
    exact hone a

/-- append(nil, more...), the second one owned. -/
theorem o_append_n {c : Cert} {x y : Operand} {T U el e' : TypeId} {t ts z bytes : Nat} {cs : Option Nat} {zv : Value} {α : Type} {enc : α → List D} {ys zs : List α} (h : app bytes [] ys = some zs) (hm : Γ.m ≤ t) (hone : ∀ a, (enc a).all okCell = true) (hg : o.guard = none)
    (hop : o.op = .call { callee := .builtin .append, args := #[x, y], argTypes := #[T, U] }) (hc : c = { tn := c.tn, hn := c.hn, out := some (.rf t 0 zs.length none), hx := [ts], hw := [(t, .row z (zs.map enc))], fr := [t] })
    (hx : OpF c x (.sc (.slice none 0 0))) (hy : OpF c y (.rf ts 0 ys.length cs)) (hyr : (ts, .row z (ys.map enc)) ∈ c.hn)
    (hT : Γ.P.underlying T = some (.slice el)) (hU : Γ.P.underlying U = some (.slice e')) (hinfo : (Γ.P.info? el).map (fun i => (i.zero, i.size, i.bytes)) = some (some zv, z, bytes)) (hzs : zv.cells.size = z) : Valid Γ ops o c := by
  obtain ⟨h0, h1, h2⟩ := app_some h
  rw [List.nil_append] at h0
  subst h0
  refine v_append_n (ys := zs.map enc) (m := zs.length) hg hop ?_ hm hx hy hyr (by simp) hT hU hinfo hzs ?_ (by simpa using h1) (by simpa using h2)
  · exact hc
  · intro e he
    obtain ⟨a, _, rfl⟩ := List.mem_map.1 he
    exact hone a

/-- append(out, more...), the second one only read. -/
theorem o_append_s {c : Cert} {x y : Operand} {T U el e' : TypeId} {t td z bytes : Nat} {cd : Option Nat} {zv : Value} {α : Type} {enc : α → List D} {xs ys zs : List α} (h : app bytes xs ys = some zs) (hm : Γ.m ≤ t) (hone : ∀ a, (enc a).all okCell = true) (hg : o.guard = none)
    (hop : o.op = .call { callee := .builtin .append, args := #[x, y], argTypes := #[T, U] }) (hc : c = { tn := c.tn, hn := c.hn, out := some (.rf t 0 zs.length none), hx := [td], hw := [(t, .row z (zs.map enc))], fr := [t] })
    (hx : OpF c x (.rf td 0 xs.length cd)) (hy : OpF c y (.s false z ys.length (ys.map enc))) (hxr : (td, .row z (xs.map enc)) ∈ c.hn)
    (hT : Γ.P.underlying T = some (.slice el)) (hU : Γ.P.underlying U = some (.slice e')) (hinfo : (Γ.P.info? el).map (fun i => (i.zero, i.size, i.bytes)) = some (some zv, z, bytes)) (hzs : zv.cells.size = z) : Valid Γ ops o c := by
  obtain ⟨rfl, h1, h2⟩ := app_some h
  refine v_append_s (xs := xs.map enc) (ys := ys.map enc) hg hop ?_ hm hx hy hxr (by simp) hT hU hinfo hzs ?_ h1 h2
  · rw [hc]; simp
  · intro e he
    obtain ⟨a, _, rfl⟩ := List.mem_map.1 he
    exact hone a

end
end Go.Im

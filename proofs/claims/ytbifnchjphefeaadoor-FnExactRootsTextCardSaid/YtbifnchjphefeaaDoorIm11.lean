import Derived.Test.YtbifnchjphefeaaDoorIm10
set_option linter.unusedVariables false
namespace Go.Im
open Go

variable {Γ : Ctx} {ops : Array Oper} {o : Oper}

/-- The shape of an operation that gives a value. -/
theorem valid_val {c : Cert} {d : D} {f : (Operand → Value) → Sem Value} (hg : o.guard = none) (he : ∀ ρ, execOp ρ o = (do pure (.value (← f ρ)))) (hc : c = { tn := c.tn, hn := c.hn, out := some d })
    (h : ∀ (β : Nat → Loc) (bs : List Nat) (σ : St) (a : Act) (w : World), Nd c σ → RelB Γ β bs σ a w → ∃ v, (f a.eval).run Γ.P w = .ok v w ∧ Rep β (NS Γ w bs) w true d v []) : Valid Γ ops o c := by
  rw [hc]
  refine valid_value hg rfl rfl fun β bs σ a w hn hr => ?_
  obtain ⟨v, h1, h2⟩ := h β bs σ a w ⟨hn.1, hn.2.1, by rw [hc]; simp⟩ hr
  exact ⟨v, exec_v (he a.eval) h1, fun d' hd => by cases hd; exact h2⟩

theorem repCs_get {β : Nat → Loc} {N : Nat → Prop} {w : World} {top : Bool} : ∀ {cs : List D} {ws : List Value} {i : Nat} {d : D}, RepCs β N w top cs ws [] → cs[i]? = some d → ∃ v, ws[i]? = some v ∧ Rep β N w top d v []
  | c :: cs, ws, 0, d, h, hd => by
    simp only [RepCs] at h
    obtain ⟨v, vs, b1, b2, rfl, hb, h3, h4⟩ := h
    simp at hd
    subst hd
    rw [(List.append_eq_nil_iff.1 hb.symm).1] at h3
    exact ⟨v, rfl, h3⟩
  | c :: cs, ws, i + 1, d, h, hd => by
    simp only [RepCs] at h
    obtain ⟨v, vs, b1, b2, rfl, hb, h3, h4⟩ := h
    simp at hd
    rw [(List.append_eq_nil_iff.1 hb.symm).2] at h4
    obtain ⟨v', h5, h6⟩ := repCs_get h4 hd
    exact ⟨v', by simpa using h5, h6⟩

theorem v_extract {c : Cert} {x : Operand} {i : Nat} {vs : List D} {d : D} (hg : o.guard = none) (hop : o.op = .extract x i) (hc : c = { tn := c.tn, out := some d }) (hx : OpF c x (.tu vs)) (hd : vs[i]? = some d) :
    Valid Γ ops o c := by
  refine valid_val (d := d) (f := fun ρ => Instr.extract (ρ x) i) hg (fun ρ => by simp [execOp, hop]) (by rw [hc]) fun β bs σ a w hn hr => ?_
  have h1 := OpF.rep hx hn hr
  simp only [Rep] at h1
  obtain ⟨_, ws, h2, h3⟩ := h1
  obtain ⟨v, h4, h5⟩ := repCs_get h3 hd
  refine ⟨v, ?_, h5⟩
  rw [h2]
  simp [Instr.extract, h4, run_pure]

/-- A part of an aggregate. -/
def partD (P : Program) (T : TypeId) (cs : List D) (off : Nat) : Option D :=
  match aggOf P T, szOf P T with
  | some true, some n => some (.ag ((cs.drop off).take n))
  | some false, _ => cs[off]?
  | _, _ => none

theorem v_field {c : Cert} {x : Operand} {S : TypeId} {f : Nat} {fields : Array Field} {fl : Field} {cs : List D} {d : D} (hg : o.guard = none) (hop : o.op = .field S x f) (hc : c = { tn := c.tn, out := some d })
    (hx : OpF c x (.ag cs)) (hS : pureSem Γ.P (underlying S) = some (.struct fields)) (hf : fields[f]? = some fl) (hd : partD Γ.P fl.type cs fl.offset = some d) : Valid Γ ops o c := by
  refine valid_val (d := d) (f := fun ρ => Instr.field S (ρ x) f) hg (fun ρ => by simp [execOp, hop]) (by rw [hc]) fun β bs σ a w hn hr => ?_
  have h1 := OpF.rep hx hn hr
  simp only [Rep] at h1
  obtain ⟨_, ws, h2, h6, h3⟩ := h1
  rw [h2]
  unfold Instr.field
  rw [run_bind_ok (pureSem_run _ _ w hS)]
  simp only [hf]
  rw [run_bind_ok (a := ws.toArray) (w' := w) rfl]
  unfold partD at hd
  unfold part
  split at hd
  · rename_i n g1 g2
    cases hd
    rw [run_bind_ok (pureSem_run _ _ w g1)]
    simp only [if_true]
    rw [run_bind_ok (pureSem_run _ _ w g2)]
    refine ⟨_, rfl, ?_⟩
    obtain ⟨p1, p2, e, q1, q2⟩ := h3.split fl.offset
    rw [(List.append_eq_nil_iff.1 e.symm).2] at q2
    obtain ⟨p3, p4, e', q3, q4⟩ := q2.split n
    rw [(List.append_eq_nil_iff.1 e'.symm).1] at q3
    simp only [Rep]
    refine ⟨trivial, (ws.drop fl.offset).take n, ?_, fun y hy => h6 y (List.mem_of_mem_drop (List.mem_of_mem_take hy)), q3⟩
    simp [List.take_drop]
  · rename_i _ g1
    rw [run_bind_ok (pureSem_run _ _ w g1)]
    obtain ⟨v, h4, h5⟩ := repCs_get h3 hd
    refine ⟨v, ?_, h5⟩
    simp [h4, run_pure]
  · cases hd

/-- Building of aggregates. -/
def fillD (place : Nat → Option (Nat × Nat)) (cs : List D) : List (Nat × D) → Option (List D)
  | [] => some cs
  | (i, d) :: rest => match place i with
    | none => none
    | some (off, size) => if (cellsD d).length = size ∧ off + size ≤ cs.length then fillD place (cs.take off ++ cellsD d ++ cs.drop (off + size)) rest else none

theorem foldl_splice (vs : List Value) (off : Nat) : ∀ (k : Nat) (arr : Array Value), (vs.zipIdx k).foldl (fun cs (x : Value × Nat) => cs.setIfInBounds (off + x.2) x.1) arr = spliceA arr (off + k) vs := by
  induction vs with
  | nil => intro k arr; rfl
  | cons v vs ih => intro k arr; simp only [List.zipIdx_cons, List.foldl_cons, spliceA]; rw [ih]; rfl

theorem spliceA_list (arr : Array Value) (off : Nat) (vs : List Value) (h : off + vs.length ≤ arr.size) : (spliceA arr off vs).toList = arr.toList.take off ++ vs ++ arr.toList.drop (off + vs.length) := by
  apply List.ext_getElem?
  intro k
  rw [Array.getElem?_toList, spliceA_get _ _ _ h]
  by_cases c1 : k < off
  · rw [if_neg (by omega), List.append_assoc, List.getElem?_append_left (by simp; omega)]
    simp [c1]
  · by_cases c2 : k < off + vs.length
    · rw [if_pos (by omega), List.append_assoc, List.getElem?_append_right (by simp; omega), List.getElem?_append_left (by simp; omega)]
      congr 1
      simp; omega
    · rw [if_neg (by omega), List.append_assoc, List.getElem?_append_right (by simp; omega), List.getElem?_append_right (by simp; omega)]
      rw [List.getElem?_drop, Array.getElem?_toList]
      congr 1
      simp; omega

theorem fill_rep {β : Nat → Loc} {N : Nat → Prop} {w : World} {place : Nat → Option (Nat × Nat)} : ∀ (ps : List (Nat × D)) (vs : List (Nat × Value)) (cs : List D) (arr : Array Value) (cs' : List D),
    fillD place cs ps = some cs' → RepCs β N w true cs arr.toList [] → (∀ x ∈ arr.toList, Value.oneCell x = true) → ps.length = vs.length →
    (∀ (k : Nat) (i : Nat) (d : D), ps[k]? = some (i, d) → ∃ v, vs[k]? = some (i, v) ∧ (cellsD d).all D.cell = true ∧ Rep β N w true d v []) →
    ∃ arr', Instr.fill place arr vs = some arr' ∧ RepCs β N w true cs' arr'.toList [] ∧ ∀ x ∈ arr'.toList, Value.oneCell x = true
  | [], [], cs, arr, cs', h, hr, ho, _, _ => by
    simp only [fillD] at h; cases h
    exact ⟨arr, rfl, hr, ho⟩
  | (i, d) :: ps, (i', v) :: vs, cs, arr, cs', h, hr, ho, hl, hp => by
    obtain ⟨v', h1, h2, h3⟩ := hp 0 i d rfl
    simp at h1
    obtain ⟨e1, e2⟩ := h1
    subst e1
    subst e2
    obtain ⟨h4, h5⟩ := cells_rep h2 h3
    simp only [fillD] at h
    cases hpl : place i' with
    | none => rw [hpl] at h; cases h
    | some q =>
      obtain ⟨off, size⟩ := q
      rw [hpl] at h
      simp only at h
      split at h
      · rename_i hc
        have e1 := h4.length
        have e2 := hr.length
        simp only [Instr.fill, hpl]
        have e3 : v.cells.size = (cellsD d).length := by simpa using e1
        have e4 : arr.size = cs.length := by simpa using e2
        rw [if_neg (by simp; omega)]
        have ef : v.cells.zipIdx.foldl (fun cs (x : Value × Nat) => cs.setIfInBounds (off + x.2) x.1) arr = spliceA arr off v.cells.toList := by
          rw [← Array.foldl_toList, Array.toList_zipIdx]
          simpa using foldl_splice v.cells.toList off 0 arr
        have hsp := spliceA_list arr off v.cells.toList (by simp; omega)
        refine fill_rep ps vs _ _ cs' h ?_ ?_ (by simpa using hl) (fun k i d hk => hp (k + 1) i d (by simpa using hk))
        · rw [ef, hsp]
          obtain ⟨p1, p2, q0, q1, q2⟩ := hr.split off
          rw [(List.append_eq_nil_iff.1 q0.symm).1] at q1
          obtain ⟨p3, p4, q3, q4, q5⟩ := hr.split (off + size)
          rw [(List.append_eq_nil_iff.1 q3.symm).2] at q5
          have := (q1.append h4).append q5
          rw [e1, hc.1]
          simpa using this
        · rw [ef, hsp]
          intro x hx
          simp only [List.mem_append] at hx
          rcases hx with (hx | hx) | hx
          · exact ho x (List.mem_of_mem_take hx)
          · exact h5 x hx
          · exact ho x (List.mem_of_mem_drop hx)
      · cases h

/-- The places of a struct's fields. -/
def placesOf (P : Program) (T : TypeId) : Option (Array (Nat × Nat)) :=
  match pureSem P (underlying T) with
  | some (.struct fields) => pureSem P (fields.mapM fun f => do pure (f.offset, ← sizeOf f.type))
  | _ => none

theorem v_build {c : Cert} {T : TypeId} {parts : Array (Nat × Operand)} {places : Array (Nat × Nat)} {zv : Value} {ds : List (Nat × D)} {cs : List D} (hg : o.guard = none) (hop : o.op = .build T parts)
    (hc : c = { tn := c.tn, out := some (.ag cs) }) (hz : pureSem Γ.P (zeroValue T) = some zv) (hp : placesOf Γ.P T = some places) (h1 : zv.cells.toList.all Value.oneCell = true) (hl : ds.length = parts.size)
    (hds : ∀ (k : Nat) (i : Nat) (d : D), ds[k]? = some (i, d) → ∃ x, parts[k]? = some (i, x) ∧ OpF c x d ∧ (cellsD d).all D.cell = true)
    (hf : fillD (fun i => places[i]?) (zv.cells.toList.map D.sc) ds = some cs) : Valid Γ ops o c := by
  refine valid_val (d := .ag cs) (f := fun ρ => Instr.build T (parts.map fun (i, x) => (i, ρ x))) hg (fun ρ => by simp [execOp, hop]) (by rw [hc]) fun β bs σ a w hn hr => ?_
  obtain ⟨arr', h2, h3, h4⟩ := fill_rep (β := β) (N := NS Γ w bs) (w := w) (place := fun i => places[i]?) ds (parts.map fun (i, x) => (i, a.eval x)).toList _ zv.cells cs hf (repCs_sc _)
    (fun x hx => List.all_eq_true.1 h1 x hx) (by simp [hl]) (fun k i d hk => by
      obtain ⟨x, g1, g2, g3⟩ := hds k i d hk
      refine ⟨a.eval x, ?_, g3, OpF.rep g2 hn hr⟩
      rw [Array.getElem?_toList, Array.getElem?_map, g1]
      rfl)
  refine ⟨.agg arr', ?_, ?_⟩
  · unfold Instr.build
    rw [run_bind_ok (pureSem_run _ _ w hz)]
    unfold placesOf at hp
    split at hp
    · rename_i fields g1
      rw [run_bind_ok (pureSem_run _ _ w g1)]
      simp only
      rw [run_bind_ok (pureSem_run _ _ w hp)]
      rw [h2]
      rfl
    · cases hp
  · simp only [Rep]
    exact ⟨trivial, arr'.toList, rfl, h4, h3⟩

theorem v_nilcheck {c : Cert} {x : Operand} {t i j : Nat} (hg : o.guard = none) (hop : o.op = .nilCheck x) (hc : c = { tn := c.tn, out := some (.pt t i j) }) (hx : OpF c x (.pt t i j)) : Valid Γ ops o c := by
  rw [hc]
  refine valid_value hg rfl rfl fun β bs σ a w hn hr => ?_
  have h1 := OpF.rep (c := c) hx ⟨hn.1, by rw [hc]; simp, by rw [hc]; simp⟩ hr
  refine ⟨a.eval x, ?_, fun d hd => by cases hd; exact h1⟩
  simp only [Rep] at h1
  simp only [execOp, hop]
  rw [h1.2.2.2]
  rfl

theorem exec_builtin {ρ : Operand → Value} {b : Builtin} {args : Array Operand} {ts : Array TypeId} (hop : o.op = .call { callee := .builtin b, args := args, argTypes := ts }) :
    execOp ρ o = builtin b ts o.type (args.map fun | .const _ => true | _ => false) (args.map ρ) := by
  simp only [execOp, hop, resolve]
  rfl

theorem v_len {c : Cert} {x : Operand} {T el ty : TypeId} {oo z n t off : Nat} {xs : List (List D)} {cap : Option Nat} {d : D} {ow : Bool} (hg : o.guard = none)
    (hop : o.op = .call { callee := .builtin .len, args := #[x], argTypes := #[T] }) (hc : c = { tn := c.tn, out := some (.sc (.int .i64 n)) }) (hd : d = .s ow z n xs ∨ d = .rf t off n cap)
    (hx : OpF c x d) (hT : pureSem Γ.P (underlying T) = some (.slice el)) : Valid Γ ops o c := by
  rw [hc]
  refine valid_value hg rfl rfl fun β bs σ a w hn hr => ?_
  have h1 := OpF.rep (c := c) hx ⟨hn.1, by rw [hc]; simp, by rw [hc]; simp⟩ hr
  have hv : ∃ ad cp, a.eval x = .slice ad n cp := by
    rcases hd with rfl | rfl
    · simp only [Rep] at h1
      obtain ⟨_, _, ad, cp, h2, _⟩ := h1
      exact ⟨ad, cp, h2⟩
    · simp only [Rep] at h1
      obtain ⟨_, _, ⟨_, _, rfl, h2⟩ | ⟨_, cp, h2, _⟩⟩ := h1
      · exact ⟨none, 0, h2⟩
      · exact ⟨_, cp, h2⟩
  obtain ⟨ad, cp, hv⟩ := hv
  refine ⟨.int .i64 n, ?_, fun d hd => by cases hd; simp [Rep]⟩
  rw [exec_builtin hop]
  simp only [builtin, List.map_toArray, List.map_cons, List.map_nil]
  rw [hv]
  refine run_bind_ok (a := Value.int .i64 n) (w' := w) ?_
  unfold Builtin.len_
  simp only [List.getElem?_toArray, List.getElem?_cons_zero]
  rw [run_bind_ok (pureSem_run _ _ w hT)]
  rfl

theorem v_mkfn {c : Cert} {f : FuncId} {caps : Array Operand} {ds : List D} (hg : o.guard = none) (hop : o.op = .makeFunc (.func f) #[] caps) (hc : c = { tn := c.tn, out := some (.fn f ds) })
    (hl : ds.length = caps.size) (hds : ∀ (k : Nat) (d : D), ds[k]? = some d → ∃ x, caps[k]? = some x ∧ OpF c x d) : Valid Γ ops o c := by
  refine valid_val (d := .fn f ds) (f := fun ρ => Instr.makeFunc (.func f) #[] (caps.map ρ)) hg (fun ρ => by simp [execOp, hop]) (by rw [hc]) fun β bs σ a w hn hr => ?_
  refine ⟨_, rfl, ?_⟩
  simp only [Rep]
  refine ⟨trivial, trivial, (caps.map a.eval).toList, by rw [Array.toArray_toList], ?_⟩
  have key : ∀ (ds : List D) (xs : List Operand), ds.length = xs.length → (∀ (k : Nat) (d : D), ds[k]? = some d → ∃ x, xs[k]? = some x ∧ OpF c x d) → RepCs β (NS Γ w bs) w true ds (xs.map a.eval) [] := by
    intro ds
    induction ds with
    | nil => intro xs h _; rw [List.length_eq_zero_iff.1 h.symm]; simp [RepCs]
    | cons d ds ih =>
      intro xs h hk
      cases xs with
      | nil => simp at h
      | cons x xs =>
        obtain ⟨x', g1, g2⟩ := hk 0 d rfl
        simp at g1
        subst g1
        simp only [List.map_cons, RepCs]
        exact ⟨_, _, [], [], rfl, rfl, OpF.rep g2 hn hr, ih xs (by simpa using h) (fun k d hd => hk (k + 1) d (by simpa using hd))⟩
  have := key ds caps.toList (by simpa using hl) (fun k d hd => by
    obtain ⟨x, g1, g2⟩ := hds k d hd
    exact ⟨x, by rw [Array.getElem?_toList]; exact g1, g2⟩)
  simpa using this

end Go.Im

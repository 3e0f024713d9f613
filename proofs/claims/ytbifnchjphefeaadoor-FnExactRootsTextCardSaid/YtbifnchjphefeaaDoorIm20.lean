import Derived.Test.YtbifnchjphefeaaDoorIm19
set_option linter.unusedVariables false
namespace Go.Im
open Go

/-- Operands with their places. -/
def opds (tm : List (Nat × D)) : List (Nat × Operand) → Option (List (Nat × D) × List (Nat × D))
  | [] => some ([], [])
  | (i, x) :: xs => match opd tm x, opds tm xs with
    | some (d, ns), some (ds, ms) => some ((i, d) :: ds, ns ++ ms)
    | _, _ => none

theorem opds_spec {tm : List (Nat × D)} {c : Cert} : ∀ {xs : List (Nat × Operand)} {ds ns : List (Nat × D)}, opds tm xs = some (ds, ns) → (∀ y ∈ ns, y ∈ c.tn) →
    ds.length = xs.length ∧ (∀ (k i : Nat) (d : D), ds[k]? = some (i, d) → ∃ x, xs[k]? = some (i, x) ∧ OpF c x d) ∧ ∀ y ∈ ns, y ∈ tm
  | [], ds, ns, h, _ => by simp only [opds] at h; cases h; simp
  | (i, x) :: xs, ds, ns, h, hs => by
    simp only [opds] at h
    split at h
    · rename_i d n1 ds' n2 h1 h2
      cases h
      obtain ⟨q1, q2⟩ := opd_spec (c := c) h1 (fun y hy => hs y (by simp [hy]))
      obtain ⟨q3, q4, q5⟩ := opds_spec (c := c) h2 (fun y hy => hs y (by simp [hy]))
      refine ⟨by simp [q3], ?_, fun y hy => ?_⟩
      · intro k i' d' hk
        cases k with
        | zero => simp at hk; obtain ⟨rfl, rfl⟩ := hk; exact ⟨x, rfl, q1⟩
        | succ k => simp at hk; obtain ⟨x', g1, g2⟩ := q4 k i' d' hk; exact ⟨x', by simpa using g1, g2⟩
      · rcases List.mem_append.1 hy with hy | hy
        · exact q2 y hy
        · exact q5 y hy
    · cases h

/-- Scalars. -/
def acSc (P : Program) (tm : List (Nat × D)) (o : Oper) : Option Cert :=
  match allSc tm o.op.operands.toList with
  | some ns => match pureSem P (execOp (rho tm) o) with
    | some (.value v) => if okSc v then some { tn := ns, out := some (scD v) } else none
    | _ => none
  | none => none

def elems (z : Nat) : Nat → List D → List (List D)
  | 0, _ => []
  | n + 1, ds => ds.take z :: elems z n (ds.drop z)

/-- The easy operations: what each needs and gives. -/
def ac0 (P : Program) (id : Option Nat) (o : Oper) (σ : St) : Option Cert :=
  match o.op with
  | .move x => (opd σ.tm x).map fun r => { tn := r.2, out := some r.1 }
  | .assign x => (opd σ.tm x).map fun r => { tn := r.2, out := some r.1 }
  | .pick x y z => match opd σ.tm x with
    | some (.sc (.bool b), n1) => (opd σ.tm (if b then y else z)).map fun r => { tn := n1 ++ r.2, out := some r.1 }
    | _ => none
  | .fieldAddr s x f => match opd σ.tm x, fldOff P s f with
    | some (.pt t i j, ns), some off => some { tn := ns, out := some (.pt t i (j + off)) }
    | some (.ps cs, ns), some off => some { tn := ns, out := some (.ps (cs.drop off)) }
    | _, _ => none
  | .load T x => match opd σ.tm x with
    | some (.ps cs, ns) => if cs.all okCell then (ofCells P T cs).map fun d => { tn := ns, out := some d } else none
    | some (.pt t 0 j, ns) => match lk σ.hp t with
      | some (.box cs) => (ofCells P T (cs.drop j)).map fun d => { tn := ns, hn := [(t, .box cs)], out := some d }
      | _ => none
    | _ => none
  | .store T x y => match o.dst, opd σ.tm x, opd σ.tm y with
    | none, some (.pt t 0 j, n1), some (d, n2) => match lk σ.hp t with
      | some (.box cs) => if (cellsD d).all D.cell = true ∧ szOf P T = some (cellsD d).length ∧ j + (cellsD d).length ≤ cs.length then
          some { tn := n1 ++ n2, hn := [(t, .box cs)], hx := [t], hw := [(t, .box (cs.take j ++ cellsD d ++ cs.drop (j + (cellsD d).length)))] } else none
      | _ => none
    | _, _, _ => none
  | .box _ x => match id, opd σ.tm x with
    | some t, some (d, ns) => if (cellsD d).all D.cell then some { tn := ns, out := some (.pt t 0 0), hw := [(t, .box (cellsD d))], fr := [t] } else none
    | _, _ => none
  | .alloc T => match id, pureSem P (zeroValue T) with
    | some t, some zv => if zv.cells.toList.all Value.oneCell then some { out := some (.pt t 0 0), hw := [(t, .box (zv.cells.toList.map D.sc))], fr := [t] } else none
    | _, _ => none
  | .field S x f => match opd σ.tm x, pureSem P (underlying S) with
    | some (.ag cs, ns), some (.struct fields) => match fields[f]? with
      | some fl => (partD P fl.type cs fl.offset).map fun d => { tn := ns, out := some d }
      | none => none
    | _, _ => none
  | .extract x i => match opd σ.tm x with
    | some (.tu vs, ns) => (vs[i]?).map fun d => { tn := ns, out := some d }
    | _ => none
  | .build T parts => match opds σ.tm parts.toList, pureSem P (zeroValue T), placesOf P T with
    | some (ds, ns), some zv, some places => if zv.cells.toList.all Value.oneCell = true ∧ ds.all (fun x => (cellsD x.2).all D.cell) = true then
        (fillD (fun i => places[i]?) (zv.cells.toList.map D.sc) ds).map fun cs => { tn := ns, out := some (.ag cs) } else none
    | _, _, _ => none
  | .makeFunc (.func f) first caps => if first.size = 0 then (opds σ.tm (caps.toList.map fun x => (0, x))).map fun r => { tn := r.2, out := some (.fn f (r.1.map (·.2))) } else none
  | .nilCheck x => match opd σ.tm x with
    | some (.pt t i j, ns) => some { tn := ns, out := some (.pt t i j) }
    | _ => none
  | .call { callee := .builtin .len, args := args, argTypes := ts } => match args.toList, ts.toList with
    | [x], [T] => match opd σ.tm x, pureSem P (underlying T) with
      | some (.s ow z n xs, ns), some (.slice el) => some { tn := ns, out := some (.sc (.int .i64 n)) }
      | some (.rf t off n cap, ns), some (.slice el) => some { tn := ns, out := some (.sc (.int .i64 n)) }
      | _, _ => acSc P σ.tm o
    | _, _ => none
  | .select _ _ => none
  | _ => acSc P σ.tm o

structure Good (Γ : Ctx) (ops : Array Oper) (o : Oper) (σ : St) (c : Cert) : Prop where
  v : (∀ t ∈ c.fr, Γ.m ≤ t) → Valid Γ ops o c
  tn : ∀ x ∈ c.tn, x ∈ σ.tm
  hn : ∀ x ∈ c.hn, x ∈ σ.hp

variable {Γ : Ctx} {ops : Array Oper} {o : Oper} {σ : St}

theorem acSc_good {c : Cert} (hg : o.guard = none) (hsel : ∀ cs b, o.op ≠ .select cs b) (h : acSc Γ.P σ.tm o = some c) : Good Γ ops o σ c := by
  unfold acSc at h
  split at h
  · rename_i ns h1
    split at h
    · rename_i v h2
      split at h
      · rename_i h3
        cases h
        refine ⟨fun _ => valid_sc hg hsel h1 h2 rfl h3, ?_, by simp⟩
        have : ∀ (xs : List Operand) (ns : List (Nat × D)), allSc σ.tm xs = some ns → ∀ x ∈ ns, x ∈ σ.tm := by
          intro xs
          induction xs with
          | nil => intro ns h; simp only [allSc] at h; cases h; simp
          | cons x xs ih =>
            intro ns h
            simp only [allSc] at h
            split at h
            · rename_i v' n1 n2 q1 q2
              cases h
              intro y hy
              rcases List.mem_append.1 hy with hy | hy
              · exact (opd_spec (c := { tn := n1 }) q1 (fun _ h => h)).2 y hy
              · exact ih n2 q2 y hy
            · cases h
        exact this _ _ h1
      · cases h
    · cases h
  · cases h

theorem ac0_good {c : Cert} {id : Option Nat} (hg : o.guard = none) (h : ac0 Γ.P id o σ = some c) : Good Γ ops o σ c := by
  unfold ac0 at h
  split at h
  case h_1 x hop =>
    cases hx : opd σ.tm x with
    | none => rw [hx] at h; cases h
    | some r =>
      obtain ⟨d, ns⟩ := r
      rw [hx] at h; cases h
      obtain ⟨q1, q2⟩ := opd_spec (c := { tn := ns }) hx (fun _ h => h)
      exact ⟨fun _ => v_mv hg (.inl hop) rfl q1, q2, by simp⟩
  case h_2 x hop =>
    cases hx : opd σ.tm x with
    | none => rw [hx] at h; cases h
    | some r =>
      obtain ⟨d, ns⟩ := r
      rw [hx] at h; cases h
      obtain ⟨q1, q2⟩ := opd_spec (c := { tn := ns }) hx (fun _ h => h)
      exact ⟨fun _ => v_mv hg (.inr hop) rfl q1, q2, by simp⟩
  case h_3 x y z hop =>
    split at h
    · rename_i b n1 hx
      cases hy : opd σ.tm (if b then y else z) with
      | none => rw [hy] at h; cases h
      | some r =>
        obtain ⟨d, n2⟩ := r
        rw [hy] at h; cases h
        obtain ⟨q1, q2⟩ := opd_spec (c := { tn := n1 ++ n2 }) hx (fun y hy => by simp [hy])
        obtain ⟨q3, q4⟩ := opd_spec (c := { tn := n1 ++ n2 }) hy (fun y hy => by simp [hy])
        refine ⟨fun _ => v_pick hg hop rfl q1 q3, fun x hx => ?_, by simp⟩
        rcases List.mem_append.1 hx with hx | hx
        · exact q2 x hx
        · exact q4 x hx
    · cases h
  case h_4 s x f hop =>
    split at h
    · rename_i t i j ns off hx hf
      cases h
      obtain ⟨q1, q2⟩ := opd_spec (c := { tn := ns }) hx (fun _ h => h)
      exact ⟨fun _ => v_faddr hg hop rfl q1 hf, q2, by simp⟩
    · rename_i cs ns off hx hf
      cases h
      obtain ⟨q1, q2⟩ := opd_spec (c := { tn := ns }) hx (fun _ h => h)
      exact ⟨fun _ => v_faddr_ps hg hop rfl q1 hf, q2, by simp⟩
    · cases h
  case h_5 T x hop =>
    split at h
    · rename_i cs ns hx
      split at h
      · rename_i hok
        cases hd : ofCells Γ.P T cs with
        | none => rw [hd] at h; cases h
        | some d =>
          rw [hd] at h; cases h
          obtain ⟨q1, q2⟩ := opd_spec (c := { tn := ns }) hx (fun _ h => h)
          exact ⟨fun _ => v_load_ps hg hop rfl q1 hd hok, q2, by simp⟩
      · cases h
    · rename_i t j ns hx
      split at h
      · rename_i cs hl
        cases hd : ofCells Γ.P T (cs.drop j) with
        | none => rw [hd] at h; cases h
        | some d =>
          rw [hd] at h; cases h
          obtain ⟨q1, q2⟩ := opd_spec (c := { tn := ns, hn := [(t, .box cs)] }) hx (fun _ h => h)
          exact ⟨fun _ => v_load_box (cs := cs) hg hop rfl q1 (by simp) hd, q2, by simpa using lk_mem hl⟩
      · cases h
    · cases h
  case h_6 T x y hop =>
    split at h
    · rename_i t j n1 d n2 hdst hx hy
      split at h
      · rename_i cs hl
        split at h
        · rename_i hc
          cases h
          obtain ⟨q1, q2⟩ := opd_spec (c := { tn := n1 ++ n2, hn := [(t, .box cs)] }) hx (fun y hy => by simp [hy])
          obtain ⟨q3, q4⟩ := opd_spec (c := { tn := n1 ++ n2, hn := [(t, .box cs)] }) hy (fun y hy => by simp [hy])
          refine ⟨fun _ => v_store_box (cs := cs) (d := d) hg hop hdst rfl q1 q3 hc.1 hc.2.1 hc.2.2 (by simp), fun x hx => ?_, by simpa using lk_mem hl⟩
          rcases List.mem_append.1 hx with hx | hx
          · exact q2 x hx
          · exact q4 x hx
        · cases h
      · cases h
    · cases h
  case h_7 T x hop =>
    split at h
    · rename_i t d ns hx
      split at h
      · rename_i hc
        cases h
        obtain ⟨q1, q2⟩ := opd_spec (c := { tn := ns }) hx (fun _ h => h)
        exact ⟨fun hm => v_box hg hop rfl (hm t (by simp)) q1 hc, q2, by simp⟩
      · cases h
    · cases h
  case h_8 T hop =>
    split at h
    · rename_i t zv hz
      split at h
      · rename_i hc
        cases h
        exact ⟨fun hm => v_alloc hg hop hz rfl hc rfl (hm t (by simp)), by simp, by simp⟩
      · cases h
    · cases h
  case h_9 S x f hop =>
    split at h
    · rename_i cs ns fields hx hS
      split at h
      · rename_i fl hf
        cases hd : partD Γ.P fl.type cs fl.offset with
        | none => rw [hd] at h; cases h
        | some d =>
          rw [hd] at h; cases h
          obtain ⟨q1, q2⟩ := opd_spec (c := { tn := ns }) hx (fun _ h => h)
          exact ⟨fun _ => v_field hg hop rfl q1 hS hf hd, q2, by simp⟩
      · cases h
    · cases h
  case h_10 x i hop =>
    split at h
    · rename_i vs ns hx
      cases hd : vs[i]? with
      | none => rw [hd] at h; cases h
      | some d =>
        rw [hd] at h; cases h
        obtain ⟨q1, q2⟩ := opd_spec (c := { tn := ns }) hx (fun _ h => h)
        exact ⟨fun _ => v_extract hg hop rfl q1 hd, q2, by simp⟩
    · cases h
  case h_11 T parts hop =>
    split at h
    · rename_i ds ns zv places hp hz hpl
      split at h
      · rename_i hc
        cases hd : fillD (fun i => places[i]?) (zv.cells.toList.map D.sc) ds with
        | none => rw [hd] at h; cases h
        | some cs =>
          rw [hd] at h; cases h
          obtain ⟨q1, q2, q3⟩ := opds_spec (c := { tn := ns, out := some (.ag cs) }) hp (fun _ h => h)
          refine ⟨fun _ => v_build (ds := ds) hg hop rfl hz hpl hc.1 (by simpa using q1) (fun k i d hk => ?_) hd, q3, by simp⟩
          obtain ⟨x, g1, g2⟩ := q2 k i d hk
          refine ⟨x, by rw [← Array.getElem?_toList]; exact g1, g2, ?_⟩
          have := List.all_eq_true.1 hc.2 (i, d) (List.mem_of_getElem? hk)
          exact this
      · cases h
    · cases h
  case h_12 f first caps hop =>
    split at h
    · rename_i hfs
      cases hp : opds σ.tm (caps.toList.map fun x => (0, x)) with
      | none => rw [hp] at h; cases h
      | some r =>
        obtain ⟨ds, ns⟩ := r
        rw [hp] at h; cases h
        obtain ⟨q1, q2, q3⟩ := opds_spec (c := { tn := ns, out := some (.fn f (ds.map (·.2))) }) hp (fun _ h => h)
        have hfe : first = #[] := Array.eq_empty_of_size_eq_zero hfs
        subst hfe
        refine ⟨fun _ => v_mkfn hg hop rfl (by simpa using q1) (fun k d hk => ?_), q3, by simp⟩
        rw [List.getElem?_map] at hk
        obtain ⟨⟨i, d'⟩, g1, g2⟩ := Option.map_eq_some_iff.1 hk
        simp only at g2; subst g2
        obtain ⟨x, g3, g4⟩ := q2 k i d' g1
        rw [List.getElem?_map] at g3
        obtain ⟨x', g5, g6⟩ := Option.map_eq_some_iff.1 g3
        cases g6
        exact ⟨x, by rw [← Array.getElem?_toList]; exact g5, g4⟩
    · cases h
  case h_13 x hop =>
    split at h
    · rename_i t i j ns hx
      cases h
      obtain ⟨q1, q2⟩ := opd_spec (c := { tn := ns }) hx (fun _ h => h)
      exact ⟨fun _ => v_nilcheck hg hop rfl q1, q2, by simp⟩
    · cases h
  case h_14 args ts hop =>
    split at h
    · rename_i x T ha ht
      have ha' : args = #[x] := by rw [← Array.toArray_toList (xs := args), ha]
      have ht' : ts = #[T] := by rw [← Array.toArray_toList (xs := ts), ht]
      subst ha'; subst ht'
      split at h
      · rename_i ow z n xs ns el hx hT
        cases h
        obtain ⟨q1, q2⟩ := opd_spec (c := { tn := ns }) hx (fun _ h => h)
        exact ⟨fun _ => v_len (t := 0) (off := 0) (cap := none) (ty := 0) (oo := 0) hg hop rfl (.inl rfl) q1 hT, q2, by simp⟩
      · rename_i t off n cap ns el hx hT
        cases h
        obtain ⟨q1, q2⟩ := opd_spec (c := { tn := ns }) hx (fun _ h => h)
        exact ⟨fun _ => v_len (z := 0) (xs := []) (ow := false) (ty := 0) (oo := 0) hg hop rfl (.inr rfl) q1 hT, q2, by simp⟩
      · exact acSc_good hg (fun cs b => by rw [hop]; simp) h
    · cases h
  case h_15 => cases h
  case h_16 => exact acSc_good hg (fun cs b e => by simp_all) h

end Go.Im

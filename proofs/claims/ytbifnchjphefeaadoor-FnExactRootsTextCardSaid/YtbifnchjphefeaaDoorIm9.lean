import Derived.Test.YtbifnchjphefeaaDoorIm8
set_option linter.unusedVariables false
namespace Go.Im
open Go

variable {Γ : Ctx} {ops : Array Oper} {o : Oper}

/-- A value handed on. -/
theorem v_mv {c : Cert} {x : Operand} {d : D} (hg : o.guard = none) (hop : o.op = .move x ∨ o.op = .assign x) (hc : c = { tn := c.tn, out := some d }) (hx : OpF c x d) : Valid Γ ops o c := by
  rw [hc]
  refine valid_value hg rfl rfl fun β bs σ a w hn hr => ⟨a.eval x, ?_, fun d' hd => ?_⟩
  · rcases hop with h | h <;> simp [execOp, h, run_pure]
  · cases hd
    exact OpF.rep (c := c) hx ⟨hn.1, by rw [hc]; simp, by rw [hc]; simp⟩ hr

theorem v_pick {c : Cert} {x y z : Operand} {d : D} {b : Bool} (hg : o.guard = none) (hop : o.op = .pick x y z) (hc : c = { tn := c.tn, out := some d }) (hx : OpF c x (.sc (.bool b)))
    (hy : OpF c (if b then y else z) d) : Valid Γ ops o c := by
  rw [hc]
  refine valid_value hg rfl rfl fun β bs σ a w hn hr => ?_
  have hn' : Nd c σ := ⟨hn.1, by rw [hc]; simp, by rw [hc]; simp⟩
  have h1 := OpF.rep hx hn' hr
  simp only [Rep] at h1
  refine ⟨if b then a.eval y else a.eval z, ?_, fun d' hd => ?_⟩
  · simp only [execOp, hop, h1.1]
    cases b <;> rfl
  · cases hd
    have := OpF.rep hy hn' hr
    cases b <;> exact this

/-- Where a field lies. -/
def fldOff (P : Program) (s : TypeId) (f : Nat) : Option Nat :=
  match pureSem P (underlying s) with
  | some (.struct fields) => match fields[f]? with
    | some fl => match szOf P fl.type with
      | some 0 => none
      | some _ => some fl.offset
      | none => none
    | none => none
  | _ => none

theorem run_fieldAt {P : Program} {w : World} {s : TypeId} {f off b o : Nat} (h : fldOff P s f = some off) : (Instr.fieldAt s (.pointer (some ⟨b, o, none⟩)) f).run P w = .ok (.pointer (some ⟨b, o + off, none⟩)) w := by
  unfold fldOff at h
  split at h
  · rename_i fields h1
    split at h
    · rename_i fl h2
      split at h
      · cases h
      · rename_i n hn h3
        cases h
        unfold Instr.fieldAt
        rw [run_bind_ok (pureSem_run _ _ w h1)]
        simp only [h2]
        rw [run_bind_ok (a := (⟨b, o, none⟩ : Addr)) (w' := w) rfl]
        have : (fieldPlace ⟨b, o, none⟩ fl).run P w = .ok ⟨b, o + fl.offset, none⟩ w := by
          unfold fieldPlace
          rw [run_bind_ok (pureSem_run _ _ w h3)]
          rw [if_neg hn, add_none]
          rfl
        rw [run_bind_ok this]
        rfl
      · cases h
    · cases h
  · cases h

theorem exec_v {ρ : Operand → Value} {s : Sem Value} {P : Program} {w w' : World} {v : Value} (he : execOp ρ o = (do pure (.value (← s)))) (hs : s.run P w = .ok v w') : (execOp ρ o).run P w = .ok (.value v) w' := by
  rw [he]
  exact run_bind_ok hs

theorem v_faddr {c : Cert} {x : Operand} {s : TypeId} {f off t i j : Nat} (hg : o.guard = none) (hop : o.op = .fieldAddr s x f) (hc : c = { tn := c.tn, out := some (.pt t i (j + off)) }) (hx : OpF c x (.pt t i j))
    (hf : fldOff Γ.P s f = some off) : Valid Γ ops o c := by
  rw [hc]
  refine valid_value hg rfl rfl fun β bs σ a w hn hr => ?_
  have h1 := OpF.rep (c := c) hx ⟨hn.1, by rw [hc]; simp, by rw [hc]; simp⟩ hr
  simp only [Rep] at h1
  refine ⟨_, exec_v (s := Instr.fieldAt s (a.eval x) f) (by simp [execOp, hop]) (by rw [h1.2.2.2]; exact run_fieldAt hf), fun d' hd => ?_⟩
  cases hd
  simp only [Rep]
  exact ⟨trivial, trivial, h1.2.2.1, by simp only [Nat.add_assoc]⟩

theorem v_faddr_ps {c : Cert} {x : Operand} {s : TypeId} {f off : Nat} {cs : List D} (hg : o.guard = none) (hop : o.op = .fieldAddr s x f) (hc : c = { tn := c.tn, out := some (.ps (cs.drop off)) }) (hx : OpF c x (.ps cs))
    (hf : fldOff Γ.P s f = some off) : Valid Γ ops o c := by
  rw [hc]
  refine valid_value hg rfl rfl fun β bs σ a w hn hr => ?_
  have h1 := OpF.rep (c := c) hx ⟨hn.1, by rw [hc]; simp, by rw [hc]; simp⟩ hr
  simp only [Rep] at h1
  obtain ⟨_, b, p, ws, h2, h3, h4, h5⟩ := h1
  refine ⟨_, exec_v (s := Instr.fieldAt s (a.eval x) f) (by simp [execOp, hop]) (by rw [h2]; exact run_fieldAt hf), fun d' hd => ?_⟩
  cases hd
  simp only [Rep]
  obtain ⟨b1, b2, h6, h7, h8⟩ := h5.split off
  have e : b2 = [] := (List.append_eq_nil_iff.1 h6.symm).2
  subst e
  exact ⟨trivial, b, p + off, ws.drop off, rfl, h3, h4.drop off, h8⟩

theorem v_load_ps {c : Cert} {x : Operand} {T : TypeId} {cs : List D} {d : D} (hg : o.guard = none) (hop : o.op = .load T x) (hc : c = { tn := c.tn, out := some d }) (hx : OpF c x (.ps cs))
    (hd : ofCells Γ.P T cs = some d) (ho : cs.all (fun d => match d with | .ag _ => false | .tu _ => false | .sc u => u.oneCell | _ => true) = true) : Valid Γ ops o c := by
  rw [hc]
  refine valid_value hg rfl rfl fun β bs σ a w hn hr => ?_
  have h1 := OpF.rep (c := c) hx ⟨hn.1, by rw [hc]; simp, by rw [hc]; simp⟩ hr
  simp only [Rep] at h1
  obtain ⟨_, b, p, ws, h2, h3, h4, h5⟩ := h1
  have hone : ∀ y ∈ ws, y.oneCell = true := by
    clear h4 hx hd hc
    generalize ([] : List Nat) = bb at h5
    induction cs generalizing ws bb with
    | nil => simp only [RepCs] at h5; rw [h5.1]; simp
    | cons d ds ih =>
      simp only [RepCs] at h5
      obtain ⟨v, vs, b1, b2, rfl, _, h6, h7⟩ := h5
      simp only [List.all_cons, Bool.and_eq_true] at ho
      intro y hy
      rcases List.mem_cons.1 hy with rfl | hy
      · refine Rep.oneCell ?_ h6
        have := ho.1
        cases d <;> simp_all
      · exact ih ho.2 vs b2 h7 y hy
  obtain ⟨v, h6, h7⟩ := run_loadVar hd h4 hone h5.up
  refine ⟨v, exec_v (s := Instr.loadAt T (a.eval x)) (by simp [execOp, hop]) ?_, fun d' hd => by cases hd; exact h7⟩
  rw [h2]
  exact h6

theorem Own.cells {w : World} {b off r : Nat} {ws : List Value} (h : Own w b off r ws) (i n : Nat) : Has w b (off + i) ((ws.drop i).take n) := h.has.sub i n

theorem v_load_box {c : Cert} {x : Operand} {T : TypeId} {cs : List D} {d : D} {t j : Nat} (hg : o.guard = none) (hop : o.op = .load T x) (hc : c = { tn := c.tn, hn := c.hn, out := some d }) (hx : OpF c x (.pt t 0 j))
    (hh : (t, .box cs) ∈ c.hn) (hd : ofCells Γ.P T (cs.drop j) = some d) : Valid Γ ops o c := by
  rw [hc]
  refine valid_value hg rfl rfl fun β bs σ a w hn hr => ?_
  have h1 := OpF.rep (c := c) hx ⟨hn.1, hn.2.1, by rw [hc]; simp⟩ hr
  simp only [Rep] at h1
  obtain ⟨b1, h2, _, _⟩ := HRep.get hr.hp (hn.2.1 _ hh)
  obtain ⟨_, hz, ws, h3, h4, h5⟩ := h2
  obtain ⟨b2, b3, _, _, h6⟩ := h5.split j
  obtain ⟨v, h7, h8⟩ := run_loadVar hd (h3.has.drop j) (fun y hy => h4 y (List.mem_of_mem_drop hy)) h6
  refine ⟨v, exec_v (s := Instr.loadAt T (a.eval x)) (by simp [execOp, hop]) ?_, fun d' hd => by cases hd; exact h8⟩
  rw [h1.2.2.2, Nat.zero_mul, Nat.add_zero]
  exact h7

theorem RepEs.get {β : Nat → Loc} {N : Nat → Prop} {w : World} {z : Nat} : ∀ {xs : List (List D)} {ws : List Value} {bs : List Nat} {i : Nat} {e : List D}, RepEs β N w xs ws bs → (∀ x ∈ xs, x.length = z) → xs[i]? = some e →
    ∃ b1 b2 b3, bs = b1 ++ b2 ++ b3 ∧ RepCs β N w false e ((ws.drop (i * z)).take z) b2 ∧ RepEs β N w (xs.take i) (ws.take (i * z)) b1 ∧ RepEs β N w (xs.drop (i + 1)) (ws.drop ((i + 1) * z)) b3
  | x :: xs, ws, bs, 0, e, h, hz, he => by
    simp only [RepEs] at h
    obtain ⟨w1, w2, b1, b2, rfl, rfl, h3, h4⟩ := h
    simp at he
    subst he
    have hl := h3.length
    rw [hz x (by simp)] at hl
    refine ⟨[], b1, b2, by simp, ?_, by simp [RepEs], ?_⟩
    · simp only [Nat.zero_mul, List.drop_zero]
      rw [List.take_append_of_le_length (by omega), List.take_of_length_le (by omega)]
      exact h3
    · simp only [Nat.zero_add, Nat.one_mul, List.drop_succ_cons, List.drop_zero]
      rw [List.drop_append_of_le_length (by omega), List.drop_of_length_le (by omega)]
      simpa using h4
  | x :: xs, ws, bs, i + 1, e, h, hz, he => by
    simp only [RepEs] at h
    obtain ⟨w1, w2, b1, b2, rfl, rfl, h3, h4⟩ := h
    simp at he
    have hl := h3.length
    rw [hz x (by simp)] at hl
    obtain ⟨c1, c2, c3, rfl, h5, h6, h7⟩ := RepEs.get h4 (fun y hy => hz y (by simp [hy])) he
    have e1 : ∀ k, (w1 ++ w2).drop (k + z) = w2.drop k := fun k => by
      rw [List.drop_append, List.drop_of_length_le (by omega), List.nil_append]; congr 1; omega
    have e2 : ∀ k, (w1 ++ w2).take (k + z) = w1 ++ w2.take k := fun k => by
      rw [List.take_append, List.take_of_length_le (by omega)]; congr 2; omega
    refine ⟨b1 ++ c1, c2, c3, by simp, ?_, ?_, ?_⟩
    · rw [show (i + 1) * z = i * z + z by rw [Nat.add_mul, Nat.one_mul], e1]; exact h5
    · rw [show (i + 1) * z = i * z + z by rw [Nat.add_mul, Nat.one_mul], e2, List.take_succ_cons]
      simp only [RepEs]
      exact ⟨w1, _, b1, c1, rfl, rfl, h3, h6⟩
    · rw [show (i + 1 + 1) * z = (i + 1) * z + z by rw [Nat.add_mul (i + 1), Nat.one_mul], e1]
      exact h7

theorem RepEs.length {β : Nat → Loc} {N : Nat → Prop} {w : World} {z : Nat} : ∀ {xs : List (List D)} {ws : List Value} {bs : List Nat}, RepEs β N w xs ws bs → (∀ x ∈ xs, x.length = z) → ws.length = xs.length * z
  | [], ws, bs, h, _ => by simp only [RepEs] at h; simp [h.1]
  | x :: xs, ws, bs, h, hz => by
    simp only [RepEs] at h
    obtain ⟨w1, w2, b1, b2, rfl, rfl, h3, h4⟩ := h
    have hl := h3.length
    rw [hz x (by simp)] at hl
    simp [RepEs.length h4 (fun y hy => hz y (by simp [hy])), hl, Nat.add_mul, Nat.add_comm]

/-- The place of an element of a slice that is only read. -/
theorem v_index {c : Cert} {x y : Operand} {T el : TypeId} {k : IntKind} {z n : Nat} {i : Int} {xs : List (List D)} {e : List D} (hg : o.guard = none) (hop : o.op = .indexAddr T x y)
    (hc : c = { tn := c.tn, out := some (.ps e) }) (hx : OpF c x (.s false z n xs)) (hy : OpF c y (.sc (.int k i))) (hT : pureSem Γ.P (underlying T) = some (.slice el)) (hz : szOf Γ.P el = some z)
    (hi : 0 ≤ i) (he : xs[i.toNat]? = some e) : Valid Γ ops o c := by
  rw [hc]
  refine valid_value hg rfl rfl fun β bs σ a w hn hr => ?_
  have hn' : Nd c σ := ⟨hn.1, by rw [hc]; simp, by rw [hc]; simp⟩
  have h1 := OpF.rep hx hn' hr
  have h2 := OpF.rep hy hn' hr
  simp only [Rep] at h1 h2
  obtain ⟨hlen, hzz, ad, cap, hv, hcap, h3⟩ := h1
  have hlt : i.toNat < n := by
    rw [← hlen]
    exact (List.getElem?_eq_some_iff.1 he).1
  rcases h3 with h3 | ⟨_, b, off, ws, had, hN, hH, hE, _⟩ | h3
  · omega
  · obtain ⟨b1, b2, b3, hb, h4, _, _⟩ := RepEs.get hE hzz he
    have e2 : b2 = [] := (List.append_eq_nil_iff.1 (List.append_eq_nil_iff.1 hb.symm).1).2
    subst e2
    refine ⟨_, exec_v (s := Instr.indexAt T (a.eval x) (a.eval y)) (v := .pointer (some ⟨b, off + i.toNat * z, none⟩)) (by simp [execOp, hop]) ?_, fun d' hd => ?_⟩
    · rw [h2.1, hv, had]
      unfold Instr.indexAt
      rw [run_bind_ok (a := (k, i)) (w' := w) rfl]
      simp only
      rw [run_bind_ok (pureSem_run _ _ w hT)]
      simp only
      rw [run_bind_ok (a := (some (⟨b, off, none⟩ : Addr), n, el)) (w' := w) rfl]
      rw [run_bind_ok (pureSem_run _ _ w hT)]
      simp only
      rw [if_pos ⟨hi, by omega⟩]
      rw [run_bind_ok (pureSem_run _ _ w hz)]
      rw [add_none]
      rfl
    · cases hd
      simp only [Rep]
      exact ⟨trivial, b, off + i.toNat * z, _, rfl, hN, hH.sub (i.toNat * z) z, h4⟩
  · exact absurd h3.1 (by simp)

end Go.Im

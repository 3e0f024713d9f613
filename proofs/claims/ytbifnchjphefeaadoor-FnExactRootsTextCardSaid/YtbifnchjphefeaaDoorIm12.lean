import Derived.Test.YtbifnchjphefeaaDoorIm11
set_option linter.unusedVariables false
namespace Go.Im
open Go

variable {Γ : Ctx} {ops : Array Oper} {o : Oper}

/-- A bound of a slice expression: what it says. -/
def BndF (c : Cert) (x : Option Operand) (dflt n : Nat) : Prop :=
  match x with
  | none => n = dflt
  | some x => ∃ k, OpF c x (.sc (.int k n))

theorem run_sliceBound {P : Program} {w : World} {k : IntKind} {n y : Nat} {code : BoundsCode} (h : n ≤ y) : (Instr.sliceBound (.int k n) y code).run P w = .ok n w := by
  unfold Instr.sliceBound
  rw [run_bind_ok (a := (k, (n : Int))) (w' := w) rfl]
  simp only
  rw [if_pos ⟨by omega, by omega⟩]
  simp [run_pure]

theorem run_sliceBounds {P : Program} {β : Nat → Loc} {bs : List Nat} {σ : St} {a : Act} {w : World} {c : Cert} (hn : Nd c σ) (hr : RelB Γ β bs σ a w) {b : Bool} {lo hi : Option Operand} {len cap l h : Nat}
    (hl : BndF c lo 0 l) (hh : BndF c hi len h) (h1 : l ≤ h) (h2 : h ≤ cap) : (Instr.sliceBounds b len cap (lo.map a.eval) (hi.map a.eval) none).run P w = .ok (l, h, cap) w := by
  unfold Instr.sliceBounds
  rw [run_bind_ok (a := cap) (w' := w) rfl]
  cases hi with
  | none =>
    simp only [BndF] at hh; subst hh
    simp only [Option.map_none]
    rw [run_bind_ok (a := h) (w' := w) rfl]
    cases lo with
    | none => simp only [BndF] at hl; subst hl; rfl
    | some x =>
      obtain ⟨k, hk⟩ := hl
      have := OpF.rep hk hn hr
      simp only [Rep] at this
      simp only [Option.map_some, this.1]
      rw [run_bind_ok (run_sliceBound h1)]
      rfl
  | some y =>
    obtain ⟨k', hk'⟩ := hh
    have h3 := OpF.rep hk' hn hr
    simp only [Rep] at h3
    simp only [Option.map_some, h3.1]
    rw [run_bind_ok (run_sliceBound h2)]
    cases lo with
    | none => simp only [BndF] at hl; subst hl; rfl
    | some x =>
      obtain ⟨k, hk⟩ := hl
      have := OpF.rep hk hn hr
      simp only [Rep] at this
      simp only [Option.map_some, this.1]
      rw [run_bind_ok (run_sliceBound h1)]
      rfl

theorem v_slice_str {c : Cert} {x : Operand} {T : TypeId} {lo hi : Option Operand} {s : ByteArray} {l h : Nat} (hg : o.guard = none) (hop : o.op = .slice T x lo hi none)
    (hc : c = { tn := c.tn, out := some (.sc (.string (s.extract l h))) }) (hx : OpF c x (.sc (.string s))) (hT : pureSem Γ.P (underlying T) = some .string) (hl : BndF c lo 0 l) (hh : BndF c hi s.size h)
    (h1 : l ≤ h) (h2 : h ≤ s.size) : Valid Γ ops o c := by
  refine valid_val (d := .sc (.string (s.extract l h))) (f := fun ρ => Instr.sliceAt T (ρ x) (lo.map ρ) (hi.map ρ) ((none : Option Operand).map ρ)) hg (fun ρ => by simp [execOp, hop]) (by rw [hc]) fun β bs σ a w hn hr => ?_
  have h3 := OpF.rep hx hn hr
  simp only [Rep] at h3
  refine ⟨_, ?_, by simp only [Rep]; exact ⟨rfl, trivial⟩⟩
  rw [h3.1]
  unfold Instr.sliceAt
  rw [run_bind_ok (pureSem_run _ _ w hT)]
  simp only
  unfold Instr.slice
  rw [run_bind_ok (pureSem_run _ _ w hT)]
  simp only [Option.map_none, Option.isSome_none, Bool.false_eq_true, if_false]
  show ((Instr.sliceBounds false s.size s.size (lo.map a.eval) (hi.map a.eval) none) >>= _).run Γ.P w = _
  rw [run_bind_ok (run_sliceBounds hn hr hl hh h1 h2)]
  rfl

theorem RepEs.sub {β : Nat → Loc} {N : Nat → Prop} {w : World} {z : Nat} : ∀ {xs : List (List D)} {ws : List Value} (k : Nat), RepEs β N w xs ws [] → (∀ x ∈ xs, x.length = z) →
    RepEs β N w (xs.take k) (ws.take (k * z)) [] ∧ RepEs β N w (xs.drop k) (ws.drop (k * z)) []
  | xs, ws, 0, h, hz => by simpa [RepEs] using h
  | [], ws, k + 1, h, hz => by
    simp only [RepEs] at h
    rw [h.1]
    simp [RepEs]
  | x :: xs, ws, k + 1, h, hz => by
    simp only [RepEs] at h
    obtain ⟨w1, w2, b1, b2, rfl, hb, h3, h4⟩ := h
    rw [(List.append_eq_nil_iff.1 hb.symm).1] at h3
    rw [(List.append_eq_nil_iff.1 hb.symm).2] at h4
    have hl := h3.length
    rw [hz x (by simp)] at hl
    obtain ⟨h5, h6⟩ := RepEs.sub k h4 (fun y hy => hz y (by simp [hy]))
    have e1 : (w1 ++ w2).drop ((k + 1) * z) = w2.drop (k * z) := by
      rw [Nat.add_mul, Nat.one_mul, List.drop_append, List.drop_of_length_le (by omega), List.nil_append]; congr 1; omega
    have e2 : (w1 ++ w2).take ((k + 1) * z) = w1 ++ w2.take (k * z) := by
      rw [Nat.add_mul, Nat.one_mul, List.take_append, List.take_of_length_le (by omega)]; congr 2; omega
    rw [e1, e2]
    refine ⟨?_, by simpa using h6⟩
    simp only [List.take_succ_cons, RepEs]
    exact ⟨w1, _, [], [], rfl, rfl, h3, h5⟩

theorem run_slice_slice {P : Program} {β : Nat → Loc} {bs : List Nat} {σ : St} {a : Act} {w : World} {c : Cert} (hn : Nd c σ) (hr : RelB Γ β bs σ a w) {T el : TypeId} {z : Nat} {ad : Option Addr} {lo hi : Option Operand} {len cap l h : Nat}
    (hT : pureSem P (underlying T) = some (.slice el)) (hz : szOf P el = some z) (hl : BndF c lo 0 l) (hh : BndF c hi len h) (h1 : l ≤ h) (h2 : h ≤ cap) :
    (Instr.sliceAt T (.slice ad len cap) (lo.map a.eval) (hi.map a.eval) none).run P w = .ok (.slice (if cap = l then ad else ad.map (·.add (l * z))) (h - l) (cap - l)) w := by
  unfold Instr.sliceAt
  rw [run_bind_ok (pureSem_run _ _ w hT)]
  simp only
  unfold Instr.slice
  rw [run_bind_ok (pureSem_run _ _ w hT)]
  simp only
  rw [run_bind_ok (run_sliceBounds hn hr hl hh h1 h2)]
  simp only
  rw [run_bind_ok (pureSem_run _ _ w hz)]
  rfl

theorem v_slice_s {c : Cert} {x : Operand} {T el : TypeId} {lo hi : Option Operand} {z n l h : Nat} {xs ys : List (List D)} (hg : o.guard = none) (hop : o.op = .slice T x lo hi none)
    (hc : c = { tn := c.tn, out := some (.s false z (h - l) ys) }) (hx : OpF c x (.s false z n xs)) (hT : pureSem Γ.P (underlying T) = some (.slice el)) (hz : szOf Γ.P el = some z)
    (hl : BndF c lo 0 l) (hh : BndF c hi n h) (h1 : l ≤ h) (h2 : h ≤ n) (hys : ys = (xs.drop l).take (h - l)) : Valid Γ ops o c := by
  refine valid_val (d := .s false z (h - l) ys) (f := fun ρ => Instr.sliceAt T (ρ x) (lo.map ρ) (hi.map ρ) none) hg (fun ρ => by simp [execOp, hop]) (by rw [hc]) fun β bs σ a w hn hr => ?_
  have h3 := OpF.rep hx hn hr
  simp only [Rep] at h3
  obtain ⟨hlen, hzz, ad, cap, hv, hcap, h4⟩ := h3
  rw [hv]
  refine ⟨_, run_slice_slice hn hr hT hz hl hh h1 (by omega), ?_⟩
  subst hys
  simp only [Rep]
  refine ⟨by simp; omega, fun e he => hzz e (List.mem_of_mem_drop (List.mem_of_mem_take he)), _, _, rfl, by omega, ?_⟩
  by_cases h0 : h - l = 0
  · exact .inl ⟨h0, trivial, by simp⟩
  · refine .inr (.inl ⟨trivial, ?_⟩)
    rcases h4 with h4 | ⟨_, b, off, ws, had, hN, hH, hE, _⟩ | h4
    · omega
    · rw [if_neg (by omega)]
      have q := (RepEs.sub (h - l) (RepEs.sub l hE hzz).2 (fun e he => hzz e (List.mem_of_mem_drop he))).1
      refine ⟨b, off + l * z, _, by rw [had]; simp [add_none], hN, ?_, q, trivial⟩
      exact hH.sub (l * z) ((h - l) * z)
    · exact absurd h4.1 (by simp)

theorem v_slice_rf {c : Cert} {x : Operand} {T el : TypeId} {lo hi : Option Operand} {z n l h t off : Nat} {cap : Option Nat} {xs : List (List D)} (hg : o.guard = none) (hop : o.op = .slice T x lo hi none)
    (hc : c = { tn := c.tn, hn := c.hn, out := some (.rf t (off + l) (h - l) none) }) (hx : OpF c x (.rf t off n cap)) (hT : pureSem Γ.P (underlying T) = some (.slice el)) (hz : szOf Γ.P el = some z)
    (hl : BndF c lo 0 l) (hh : BndF c hi n h) (h1 : l < h) (h2 : h ≤ n) (hh' : (t, .row z xs) ∈ c.hn) : Valid Γ ops o c := by
  refine valid_val (d := .rf t (off + l) (h - l) none) (f := fun ρ => Instr.sliceAt T (ρ x) (lo.map ρ) (hi.map ρ) none) hg (fun ρ => by simp [execOp, hop]) (by rw [hc]) fun β bs σ a w hn hr => ?_
  have h3 := OpF.rep hx hn hr
  obtain ⟨_, ⟨hLz, _⟩, _⟩ := HRep.get hr.hp (hn.2.1 _ hh')
  simp only [Rep] at h3
  obtain ⟨_, _, ⟨_, _, rfl, _⟩ | ⟨hnil, cp, hv, hcap, hroom, _⟩⟩ := h3
  · omega
  · rw [hv]
    refine ⟨_, run_slice_slice hn hr hT hz hl hh (by omega) (by omega), ?_⟩
    simp only [Rep]
    rw [if_neg (by omega)]
    refine ⟨trivial, trivial, .inr ⟨hnil, cp - l, by simp [add_none, hLz, Nat.add_mul, Nat.add_assoc], by omega, ?_, by simp⟩⟩
    rw [show off + l + (cp - l) = off + cp by omega]
    exact hroom

/-- A byte of a string. -/
theorem v_index_str {c : Cert} {x y : Operand} {T : TypeId} {k : IntKind} {s : ByteArray} {i : Int} {b : UInt8} {u : Value} (hg : o.guard = none) (hop : o.op = .index T x y) (hc : c = { tn := c.tn, out := some (.sc u) })
    (hu : u = .int .u8 b.toNat) (hx : OpF c x (.sc (.string s))) (hy : OpF c y (.sc (.int k i))) (hT : pureSem Γ.P (underlying T) = some .string) (hi : 0 ≤ i) (hb : s[i.toNat]? = some b) : Valid Γ ops o c := by
  refine valid_val (d := .sc u) (f := fun ρ => Instr.index T (ρ x) (ρ y)) hg (fun ρ => by simp [execOp, hop]) (by rw [hc]) fun β bs σ a w hn hr => ?_
  have h1 := OpF.rep hx hn hr
  have h2 := OpF.rep hy hn hr
  simp only [Rep] at h1 h2
  refine ⟨u, ?_, by simp [Rep]⟩
  rw [h1.1, h2.1, hu]
  unfold Instr.index
  rw [run_bind_ok (a := (k, i)) (w' := w) rfl]
  simp only
  rw [run_bind_ok (pureSem_run _ _ w hT)]
  simp only [if_pos hi, hb]
  rfl

/-- The place of an element of an owned slice. -/
theorem v_index_rf {c : Cert} {x y : Operand} {T el : TypeId} {k : IntKind} {z n t off j : Nat} {i : Int} {cap : Option Nat} {xs : List (List D)} (hg : o.guard = none) (hop : o.op = .indexAddr T x y)
    (hc : c = { tn := c.tn, hn := c.hn, out := some (.pt t j 0) }) (hx : OpF c x (.rf t off n cap)) (hy : OpF c y (.sc (.int k i))) (hT : pureSem Γ.P (underlying T) = some (.slice el)) (hz : szOf Γ.P el = some z)
    (hi : 0 ≤ i) (hj : i < n) (hjj : off + i.toNat = j) (hh : (t, .row z xs) ∈ c.hn) : Valid Γ ops o c := by
  refine valid_val (d := .pt t j 0) (f := fun ρ => Instr.indexAt T (ρ x) (ρ y)) hg (fun ρ => by simp [execOp, hop]) (by rw [hc]) fun β bs σ a w hn hr => ?_
  have h1 := OpF.rep hx hn hr
  have h2 := OpF.rep hy hn hr
  obtain ⟨_, ⟨hLz, _⟩, _⟩ := HRep.get hr.hp (hn.2.1 _ hh)
  simp only [Rep] at h1 h2
  obtain ⟨_, _, ⟨_, _, rfl, _⟩ | ⟨hnil, cp, hv, hcap, hroom, _⟩⟩ := h1
  · omega
  · refine ⟨.pointer (some ⟨(β t).b, (β t).o + j * (β t).z + 0, none⟩), ?_, by simp only [Rep]; exact ⟨trivial, trivial, hnil, trivial⟩⟩
    rw [h2.1, hv]
    unfold Instr.indexAt
    rw [run_bind_ok (a := (k, i)) (w' := w) rfl]
    simp only
    rw [run_bind_ok (pureSem_run _ _ w hT)]
    simp only
    rw [run_bind_ok (a := (some (⟨(β t).b, (β t).o + off * (β t).z, none⟩ : Addr), n, el)) (w' := w) rfl]
    rw [run_bind_ok (pureSem_run _ _ w hT)]
    simp only
    rw [if_pos ⟨hi, hj⟩]
    rw [run_bind_ok (pureSem_run _ _ w hz)]
    rw [add_none, hLz, ← hjj, Nat.add_mul, Nat.add_assoc]
    rfl

def okCell : D → Bool
  | .ag _ => false
  | .tu _ => false
  | .sc u => u.oneCell
  | _ => true

theorem repCs_one2 {β : Nat → Loc} {N : Nat → Prop} {w : World} {top : Bool} : ∀ {cs : List D} {ws : List Value} {bs : List Nat}, cs.all okCell = true → RepCs β N w top cs ws bs → ∀ x ∈ ws, Value.oneCell x = true
  | [], ws, bs, _, h => by simp only [RepCs] at h; rw [h.1]; simp
  | d :: ds, ws, bs, hc, h => by
    simp only [RepCs] at h
    obtain ⟨v, vs, b1, b2, rfl, _, h3, h4⟩ := h
    simp only [List.all_cons, Bool.and_eq_true] at hc
    intro x hx
    rcases List.mem_cons.1 hx with rfl | hx
    · refine Rep.oneCell ?_ h3
      have := hc.1
      cases d <;> simp_all [okCell]
    · exact repCs_one2 hc.2 h4 x hx

/-- A cell of an owned slice. -/
theorem v_load_row {c : Cert} {x : Operand} {T : TypeId} {z t i j : Nat} {xs : List (List D)} {e : List D} {d : D} (hg : o.guard = none) (hop : o.op = .load T x) (hc : c = { tn := c.tn, hn := c.hn, out := some d })
    (hx : OpF c x (.pt t i j)) (hh : (t, .row z xs) ∈ c.hn) (he : xs[i]? = some e) (ho : (e.drop j).all okCell = true)
    (hd : ofCells Γ.P T (e.drop j) = some d) : Valid Γ ops o c := by
  refine valid_val (d := d) (f := fun ρ => Instr.loadAt T (ρ x)) hg (fun ρ => by simp [execOp, hop]) (by rw [hc]) fun β bs σ a w hn hr => ?_
  have h1 := OpF.rep hx hn hr
  simp only [Rep] at h1
  obtain ⟨b1, ⟨hLz, hzz, hrow⟩, _, _⟩ := HRep.get hr.hp (hn.2.1 _ hh)
  rcases hrow with ⟨_, rfl, _⟩ | ⟨hnil, ws, hO, hE⟩
  · simp at he
  · obtain ⟨b2, b3, b4, _, h4, _, _⟩ := RepEs.get hE hzz he
    obtain ⟨b5, b6, _, _, h6⟩ := h4.split j
    have hone := repCs_one2 ho h6
    obtain ⟨v, h7, h8⟩ := run_loadVar hd ((hO.cells (i * z) z).drop j) hone h6.up
    refine ⟨v, ?_, h8⟩
    rw [h1.2.2.2, hLz]
    exact h7

/-- Strings joined. -/
theorem v_concat {c : Cert} {x y : Operand} {T U : TypeId} {s1 s2 : ByteArray} (hg : o.guard = none) (hop : o.op = .binOp .add T x y U) (hc : c = { tn := c.tn, out := some (.sc (.string (s1 ++ s2))) })
    (hx : OpF c x (.sc (.string s1))) (hy : OpF c y (.sc (.string s2))) (hb : s1.size + s2.size ≤ 1099511627776) : Valid Γ ops o c := by
  refine valid_val (d := .sc (.string (s1 ++ s2))) (f := fun ρ => do eqGuard .add T x y (ρ x) (ρ y); binOp .add T (ρ x) (ρ y)) hg (fun ρ => by simp [execOp, hop]) (by rw [hc]) fun β bs σ a w hn hr => ?_
  have h1 := OpF.rep hx hn hr
  have h2 := OpF.rep hy hn hr
  simp only [Rep] at h1 h2
  refine ⟨_, ?_, by simp only [Rep]; exact ⟨rfl, trivial⟩⟩
  rw [h1.1, h2.1]
  rw [run_bind_ok (a := ()) (w' := w) rfl]
  show (Op.stringOp .add s1 s2).run Γ.P w = _
  unfold Op.stringOp
  simp only
  have hmax : IntKind.i64.max = 9223372036854775807 := by rfl
  rw [if_neg (by rw [hmax]; omega)]
  rfl

end Go.Im

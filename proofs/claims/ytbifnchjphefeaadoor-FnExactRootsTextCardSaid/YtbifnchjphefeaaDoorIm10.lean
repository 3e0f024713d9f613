import Derived.Test.YtbifnchjphefeaaDoorIm9
set_option linter.unusedVariables false
namespace Go.Im
open Go

variable {Γ : Ctx} {ops : Array Oper} {o : Oper}

def cellsD : D → List D
  | .ag cs => cs
  | d => [d]

/-- Is it one cell, and does it own nothing? -/
def D.cell : D → Bool
  | .ag _ => false
  | .tu _ => false
  | .s o _ _ _ => !o
  | .sc v => v.oneCell
  | _ => true

theorem D.cell_free {d : D} (h : d.cell = true) : d.free = true := by
  cases d <;> simp_all [D.cell, D.free]

theorem D.cell_one {β : Nat → Loc} {N : Nat → Prop} {w : World} {top : Bool} {d : D} {v : Value} {bs : List Nat} (h : d.cell = true) (hr : Rep β N w top d v bs) : v.oneCell = true := by
  refine Rep.oneCell ?_ hr
  cases d <;> simp_all [D.cell]

theorem repCs_one {β : Nat → Loc} {N : Nat → Prop} {w : World} {top : Bool} : ∀ {cs : List D} {ws : List Value} {bs : List Nat}, cs.all D.cell = true → RepCs β N w top cs ws bs → ∀ x ∈ ws, Value.oneCell x = true
  | [], ws, bs, _, h => by simp only [RepCs] at h; rw [h.1]; simp
  | d :: ds, ws, bs, hc, h => by
    simp only [RepCs] at h
    obtain ⟨v, vs, b1, b2, rfl, _, h3, h4⟩ := h
    simp only [List.all_cons, Bool.and_eq_true] at hc
    intro x hx
    rcases List.mem_cons.1 hx with rfl | hx
    · exact D.cell_one hc.1 h3
    · exact repCs_one hc.2 h4 x hx

/-- A value's cells. -/
theorem cells_rep {β : Nat → Loc} {N : Nat → Prop} {w : World} {d : D} {v : Value} (hc : (cellsD d).all D.cell = true) (h : Rep β N w true d v []) :
    RepCs β N w true (cellsD d) v.cells.toList [] ∧ ∀ x ∈ v.cells.toList, Value.oneCell x = true := by
  have key : RepCs β N w true (cellsD d) v.cells.toList [] := by
    cases d with
    | ag cs =>
      simp only [Rep] at h
      obtain ⟨_, ws, rfl, _, h3⟩ := h
      simpa [cellsD, Value.cells] using h3
    | _ =>
      simp only [cellsD, List.all_cons, List.all_nil, Bool.and_true] at hc
      have h1 := D.cell_one hc h
      have : v.cells = #[v] := by cases v <;> first | rfl | (simp [Value.oneCell] at h1)
      rw [this]
      simp only [cellsD, RepCs]
      exact ⟨v, [], [], [], rfl, rfl, h, rfl, rfl⟩
  exact ⟨key, repCs_one hc key⟩

theorem RepCs.frame' {β β' : Nat → Loc} {N N' : Nat → Prop} {w w' : World} {cs : List D} {ws : List Value} (hN : ∀ b, N b → N' b ∧ w'.heap[b]? = w.heap[b]?) (hm : ∀ t ∈ D.men.menL cs, β' t = β t)
    (h : RepCs β N w true cs ws []) : RepCs β' N' w' true cs ws [] := RepCs.frame hN cs true ws [] (by simp) hm h

/-- What a fact names is in use. -/
theorem fact_us {σ : St} {a : Act} {w : World} {c : Cert} {x : Operand} {d : D} (h0 : ∀ t, t ∈ menT σ.tm ∨ t ∈ menH σ.hp → t ∈ σ.us) (hn : Nd c σ) (hx : OpF c x d) : ∀ t ∈ d.men, t ∈ σ.us := by
  intro t ht
  cases x with
  | tmp k => exact h0 t (.inl (List.mem_flatMap.2 ⟨_, hn.1 _ hx, ht⟩))
  | const v => simp only [OpF] at hx; subst hx; simp [D.men] at ht
  | func f => simp only [OpF] at hx; subst hx; simp [D.men, D.men.menL] at ht
  | global g => exact absurd hx id

theorem men_cells (d : D) : D.men.menL (cellsD d) = d.men := by
  cases d <;> simp [cellsD, D.men.menL, D.men]

theorem push_get {w w1 : World} {ob : Obj} {b : Nat} (h : w1.heap = w.heap.push ob) (hb : b < w.heap.size) : w1.heap[b]? = w.heap[b]? := by
  rw [h, Array.getElem?_push, if_neg (by omega)]

theorem own_new {w w1 : World} {arr : Array Value} {e : TypeId} (h : w1.heap = w.heap.push (.cells arr e (0, 0))) : Own w1 w.heap.size 0 arr.size arr.toList := by
  refine ⟨arr, e, 0, 0, by rw [h]; simp, by omega, by omega, ?_⟩
  intro k hk
  simp only [Array.length_toList] at hk
  simp [hk]

theorem v_box {c : Cert} {x : Operand} {T : TypeId} {d : D} {t : Nat} (hg : o.guard = none) (hop : o.op = .box T x)
    (hc : c = { tn := c.tn, out := some (.pt t 0 0), hw := [(t, .box (cellsD d))], fr := [t] }) (hm : Γ.m ≤ t) (hx : OpF c x d) (hd : (cellsD d).all D.cell = true) : Valid Γ ops o c := by
  intro σ a w Q hdst hn ⟨h0, β, bs, hr⟩
  have hwt : Region.wanted o (yielded ops a.tmps) = true := by simp [Region.wanted, hg]
  rw [if_pos hwt]
  have h1 := OpF.rep hx hn hr
  obtain ⟨h2, h3⟩ := cells_rep hd h1
  have hfr : t ∉ σ.us := hn.2.2 t (by rw [hc]; simp)
  have hrun : (execOp a.eval o).run Γ.P w = .ok (.value (.pointer (some ⟨w.heap.size, 0, none⟩))) { w with heap := w.heap.push (.cells (a.eval x).cells T) } := by
    refine exec_v (s := Instr.box T (a.eval x)) (by simp [execOp, hop]) ?_
    rfl
  unfold Oper.wp
  rw [hrun, Oper.upon_value]
  have hus : ∀ k ∈ D.men.menL (cellsD d), k ≠ t := fun k hk e => hfr (e ▸ fact_us (σ := σ) (a := a) (w := w) h0 hn hx k (by rwa [men_cells] at hk))
  refine Rel.new (t := t) (z := (cellsD d).length) (e := .box (cellsD d)) (arr := (a.eval x).cells) (el := T) (fz := (0, 0)) h0 hr hdst (by rw [hc]) (by rw [hc]) hfr hm ?_ ?_ rfl ⟨rfl, rfl⟩
  · intro w1 N1 hw1 hN1
    refine ⟨rfl, rfl, (a.eval x).cells.toList, own_new hw1, h3, ?_⟩
    exact RepCs.frame' (fun b hb => ⟨hN1 b hb, push_get hw1 hb.2.1⟩) (fun k hk => updB_ne (hus k hk)) h2
  · intro w1 N1 hw1 hN1 d' hd'
    rw [hc] at hd'
    cases hd'
    simp only [Rep, updB_self]
    exact ⟨trivial, trivial, trivial, by simp⟩

theorem v_alloc {c : Cert} {T : TypeId} {t : Nat} {zv : Value} {cs : List D} (hg : o.guard = none) (hop : o.op = .alloc T) (hz : pureSem Γ.P (zeroValue T) = some zv) (hcs : zv.cells.toList.map D.sc = cs)
    (h1 : zv.cells.toList.all Value.oneCell = true) (hc : c = { tn := c.tn, out := some (.pt t 0 0), hw := [(t, .box cs)], fr := [t] }) (hm : Γ.m ≤ t) : Valid Γ ops o c := by
  intro σ a w Q hdst hn ⟨h0, β, bs, hr⟩
  have hwt : Region.wanted o (yielded ops a.tmps) = true := by simp [Region.wanted, hg]
  rw [if_pos hwt]
  have hfr : t ∉ σ.us := hn.2.2 t (by rw [hc]; simp)
  have hrun : (execOp a.eval o).run Γ.P w = .ok (.value (.pointer (some ⟨w.heap.size, 0, none⟩))) { w with heap := w.heap.push (.cells zv.cells T) } := by
    refine exec_v (s := Instr.alloc T true (.tuple #[])) (by simp [execOp, hop]) ?_
    unfold Instr.alloc
    rw [run_bind_ok (pureSem_run _ _ w hz)]
    rfl
  unfold Oper.wp
  rw [hrun, Oper.upon_value]
  refine Rel.new (t := t) (z := cs.length) (e := .box cs) (arr := zv.cells) (el := T) (fz := (0, 0)) h0 hr hdst (by rw [hc]) (by rw [hc]) hfr hm ?_ ?_ rfl ⟨rfl, rfl⟩
  · intro w1 N1 hw1 hN1
    refine ⟨rfl, rfl, zv.cells.toList, own_new hw1, fun x hx => List.all_eq_true.1 h1 x hx, ?_⟩
    rw [← hcs]
    exact repCs_sc _
  · intro w1 N1 hw1 hN1 d' hd'
    rw [hc] at hd'
    cases hd'
    simp only [Rep, updB_self]
    exact ⟨trivial, trivial, trivial, by simp⟩

theorem run_storeVar {P : Program} {w : World} {T : TypeId} {b off r n : Nat} {ws : List Value} {v : Value} (hz : szOf P T = some n) (hv : v.cells.toList.length = n) (h1 : ∀ x ∈ v.cells.toList, Value.oneCell x = true)
    (ho : Own w b off r ws) {j : Nat} (hj : j + n ≤ r) : (storeVar T ⟨b, off + j, none⟩ v).run P w = .ok () (putCells w b (off + j) v.cells.toList) := by
  unfold storeVar
  rw [run_bind_ok (pureSem_run _ _ w hz)]
  rw [if_neg (by simp at hv; omega)]
  obtain ⟨arr, e, lo, hi, h2, h3, h4, h5⟩ := ho
  have := run_storeCells (P := P) (off := off + j) v.cells.toList 0 w arr h2 h3 (by omega) h1
  simpa using this

theorem own_put {w : World} {b off r : Nat} {ws vs : List Value} (ho : Own w b off r ws) {j : Nat} (hj : j + vs.length ≤ ws.length) (hr : ws.length ≤ r) :
    Own (putCells w b (off + j) vs) b off r (ws.take j ++ vs ++ ws.drop (j + vs.length)) := by
  obtain ⟨arr, e, lo, hi, h2, h3, h4, h5⟩ := ho
  obtain ⟨h6, h7, h8⟩ := putCells_heap (off := off + j) (vs := vs) h2
  refine ⟨_, e, lo, hi, h6, by rw [spliceA_size]; exact h3, by rw [spliceA_size]; exact h4, ?_⟩
  intro k hk
  rw [spliceA_get _ _ _ (by omega)]
  simp only [List.length_append, List.length_take, List.length_drop] at hk
  rw [← List.getElem?_eq_getElem]
  by_cases c1 : k < j
  · rw [if_neg (by omega), h5 k (by omega), List.append_assoc, List.getElem?_append_left (by simp; omega)]
    simp [c1]
  · by_cases c2 : k < j + vs.length
    · rw [if_pos (by omega), List.append_assoc, List.getElem?_append_right (by simp; omega), List.getElem?_append_left (by simp; omega)]
      congr 1
      simp; omega
    · rw [if_neg (by omega), h5 k (by omega), List.append_assoc, List.getElem?_append_right (by simp; omega), List.getElem?_append_right (by simp; omega)]
      rw [List.getElem?_drop]
      rw [← List.getElem?_eq_getElem]
      congr 1
      simp; omega

theorem putCells_quiet (w : World) (b : Nat) : ∀ (off : Nat) (vs : List Value), (putCells w b off vs).os = w.os ∧ (putCells w b off vs).output = w.output := by
  intro off vs
  induction vs generalizing w off with
  | nil => exact ⟨rfl, rfl⟩
  | cons v vs ih =>
    simp only [putCells]
    refine ⟨(ih _ _).1.trans ?_, (ih _ _).2.trans ?_⟩ <;> (unfold World.setCell; repeat (first | rfl | split))

theorem v_store_box {c : Cert} {x y : Operand} {T : TypeId} {cs : List D} {d : D} {t j : Nat} (hg : o.guard = none) (hop : o.op = .store T x y) (hds : o.dst = none)
    (hc : c = { tn := c.tn, hn := c.hn, hx := [t], hw := [(t, .box (cs.take j ++ cellsD d ++ cs.drop (j + (cellsD d).length)))] }) (hx : OpF c x (.pt t 0 j)) (hy : OpF c y d)
    (hd : (cellsD d).all D.cell = true) (hz : szOf Γ.P T = some (cellsD d).length) (hj : j + (cellsD d).length ≤ cs.length) (hh : (t, .box cs) ∈ c.hn) : Valid Γ ops o c := by
  intro σ a w Q hdst hn ⟨h0, β, bs, hr⟩
  have hwt : Region.wanted o (yielded ops a.tmps) = true := by simp [Region.wanted, hg]
  rw [if_pos hwt]
  have h1 := OpF.rep hx hn hr
  have h2 := OpF.rep hy hn hr
  obtain ⟨h3, h4⟩ := cells_rep hd h2
  simp only [Rep] at h1
  obtain ⟨b1, b2, hp, ⟨hnil, hLz, ws, hO, hone, hcs⟩, hrest⟩ := HRep.take hr.hp hr.keys (hn.2.1 _ hh)
  have hown : (β t).own = [(β t).b] := by simp [Loc.own, hnil]
  rw [hown] at hp
  have hlen := hcs.length
  have hvl := h3.length
  have hroom : ws.length ≤ (β t).r ∨ True := .inr trivial
  have hrun : (execOp a.eval o).run Γ.P w = .ok .skip (putCells w (β t).b ((β t).o + j) (a.eval y).cells.toList) := by
    have e : execOp a.eval o = (do Instr.storeAt T (a.eval x) (a.eval y); pure .skip) := by simp [execOp, hop]
    rw [e]
    refine (run_bind_ok (a := ()) (w' := putCells w (β t).b ((β t).o + j) (a.eval y).cells.toList) ?_).trans rfl
    rw [h1.2.2.2, Nat.zero_mul, Nat.add_zero]
    obtain ⟨arr, e, lo, hi, g1, g2, g3, g4⟩ := hO
    refine run_storeVar (r := ws.length) (ws := ws) hz (by rw [hvl]) h4 ⟨arr, e, lo, hi, g1, g2, ?_, g4⟩ (by omega)
    rcases Nat.eq_zero_or_pos ws.length with e0 | e0
    · omega
    · have := g4 (ws.length - 1) (by omega)
      have := (Array.getElem?_eq_some_iff.1 this).1
      omega
  unfold Oper.wp
  rw [hrun, Oper.upon_skip]
  have hheap : (∀ b', b' ≠ (β t).b → (putCells w (β t).b ((β t).o + j) (a.eval y).cells.toList).heap[b']? = w.heap[b']?) ∧ (putCells w (β t).b ((β t).o + j) (a.eval y).cells.toList).heap.size = w.heap.size := by
    obtain ⟨arr, e, lo, hi, g1, g2, g3, g4⟩ := hO
    exact (putCells_heap g1).2
  have hnd := hp.nodup_iff.1 hr.nodup
  simp only [List.singleton_append, List.nodup_cons, List.mem_append, not_or] at hnd
  obtain ⟨p1, p2, e1, hs1, hs2⟩ := hcs.split j
  obtain ⟨p3, p4, e2, hs3, hs4⟩ := hs2.split (cellsD d).length
  have hsub : ∀ b, b ∈ p1 ++ p4 → b ∈ b1 := fun b hb => by
    rw [e1, e2]; simp only [List.mem_append] at hb ⊢; rcases hb with h | h <;> simp [h]
  have hnd1 : (p1 ++ p4).Nodup := by
    have := (List.nodup_append.1 hnd.2).1
    rw [e1, e2] at this
    refine List.Nodup.sublist ?_ this
    exact List.Sublist.append_left (List.sublist_append_right _ _) _
  refine Rel.step (β1 := β) (bk := b2) (br := (β t).b :: b1) (bn := (β t).b :: (p1 ++ p4)) h0 hr hdst (by rw [hc]; simp) (by rw [hc]; simp) ?_ ?_ ?_ ?_ (fun _ _ => rfl) (fun _ _ => rfl) ?_ ?_ ?_ ?_ (putCells_quiet _ _ _ _)
  · simpa using hp
  · rw [hc, filt_one]; exact hrest
  · rw [hheap.2]; exact Nat.le_refl _
  · intro b _ hb
    exact hheap.1 b (fun e => hb (by simp [e]))
  · exact List.nodup_cons.2 ⟨fun h => hnd.1.1 (hsub _ h), hnd1⟩
  · intro b hb
    rw [hheap.2]
    have : b ∈ (β t).b :: b1 := by
      rcases List.mem_cons.1 hb with rfl | hb
      · simp
      · simp [hsub b hb]
    exact ⟨.inl this, (hr.own b (hp.mem_iff.2 (by simp only [List.singleton_append, List.mem_cons, List.mem_append] at this ⊢; rcases this with h | h <;> simp [h]))).1⟩
  · rw [hc]
    have hfr : ∀ b, (NS Γ w bs b → NS Γ (putCells w (β t).b ((β t).o + j) (a.eval y).cells.toList) ((β t).b :: (p1 ++ p4) ++ b2) b ∧ (putCells w (β t).b ((β t).o + j) (a.eval y).cells.toList).heap[b]? = w.heap[b]?) := by
      rintro b ⟨q1, q2, q3⟩
      have hb1 : b ≠ (β t).b := fun e => q3 (hp.mem_iff.2 (by simp [e]))
      refine ⟨⟨q1, by rw [hheap.2]; exact q2, ?_⟩, hheap.1 b hb1⟩
      intro hb
      simp only [List.cons_append, List.mem_cons, List.mem_append] at hb
      refine q3 (hp.mem_iff.2 ?_)
      simp only [List.singleton_append, List.mem_cons, List.mem_append]
      rcases hb with hb | (hb | hb) | hb
      · exact .inl hb
      · exact .inr (.inl (hsub b (by simp [hb])))
      · exact .inr (.inl (hsub b (by simp [hb])))
      · exact .inr (.inr hb)
    have hfb : ∀ b ∈ p1 ++ p4, (putCells w (β t).b ((β t).o + j) (a.eval y).cells.toList).heap[b]? = w.heap[b]? := fun b hb => hheap.1 b (fun e => hnd.1.1 (e ▸ hsub b hb))
    refine ⟨p1 ++ p4, [], by rw [hown]; simp, ⟨hnil, ?_, ws.take j ++ (a.eval y).cells.toList ++ ws.drop (j + (a.eval y).cells.toList.length), ?_, ?_, ?_⟩, rfl⟩
    · rw [hLz]; simp; omega
    · obtain ⟨arr, e, lo, hi, g1, g2, g3, g4⟩ := hO
      have hle : (β t).o + ws.length ≤ arr.size := by
        rcases Nat.eq_zero_or_pos ws.length with e0 | e0
        · omega
        · have := g4 (ws.length - 1) (by omega)
          have := (Array.getElem?_eq_some_iff.1 this).1
          omega
      obtain ⟨arr', e', lo', hi', q1, q2, q3, q4⟩ := own_put (r := ws.length) (vs := (a.eval y).cells.toList) (j := j) ⟨arr, e, lo, hi, g1, g2, hle, g4⟩ (by rw [hvl]; omega) (Nat.le_refl _)
      refine ⟨arr', e', lo', hi', q1, q2, ?_, q4⟩
      have := (putCells_heap (off := (β t).o + j) (vs := (a.eval y).cells.toList) g1).1
      rw [this] at q1
      cases q1
      rw [spliceA_size]
      exact g3
    · intro z hz'
      simp only [List.mem_append] at hz'
      rcases hz' with (hz' | hz') | hz'
      · exact hone z (List.mem_of_mem_take hz')
      · exact h4 z hz'
      · exact hone z (List.mem_of_mem_drop hz')
    · have q1 := RepCs.frame hfr _ true _ p1 (fun b hb => hfb b (by simp [hb])) (fun _ _ => rfl) hs1
      have q2 := RepCs.frame hfr _ true _ [] (by simp) (fun _ _ => rfl) h3
      have q3 := RepCs.frame hfr _ true _ p4 (fun b hb => hfb b (by simp [hb])) (fun _ _ => rfl) hs4
      rw [List.drop_drop, List.drop_drop] at q3
      have := (q1.append q2).append q3
      rw [hvl]
      simpa using this
  · rw [hc]; simp

end Go.Im

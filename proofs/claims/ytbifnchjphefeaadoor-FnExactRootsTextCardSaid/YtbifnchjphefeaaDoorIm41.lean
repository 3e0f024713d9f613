import Derived.Test.YtbifnchjphefeaaDoorIm40
set_option linter.unusedVariables false
namespace Go.Im
open Go

section
variable {Γ : Ctx} {ops : Array Oper} {o : Oper}

/-- A part of a row that is only looked at. -/
theorem v_slice_sub {c : Cert} {x : Operand} {T el : TypeId} {lo hi : Option Operand} {z n l h t : Nat} {xs : List (List D)} (hg : o.guard = none) (hop : o.op = .slice T x lo hi none)
    (hc : c = { tn := c.tn, hn := c.hn, out := some (.sub t l (h - l)) }) (hx : OpF c x (.rf t 0 n none)) (hT : pureSem Γ.P (underlying T) = some (.slice el)) (hz : szOf Γ.P el = some z)
    (hl : BndF c lo 0 l) (hh : BndF c hi n h) (h1 : l ≤ h) (h2 : h ≤ n) (hh' : (t, .row z xs) ∈ c.hn) : Valid Γ ops o c := by
  refine valid_val (d := .sub t l (h - l)) (f := fun ρ => Instr.sliceAt T (ρ x) (lo.map ρ) (hi.map ρ) none) hg (fun ρ => by simp [execOp, hop]) (by rw [hc]) fun β bs σ a w hn hr => ?_
  have h3 := OpF.rep hx hn hr
  obtain ⟨_, ⟨hLz, _⟩, _⟩ := HRep.get hr.hp (hn.2.1 _ hh')
  simp only [Rep] at h3
  obtain ⟨_, _, ⟨_, _, rfl, hv⟩ | ⟨hnil, cp, hv, hcap, hroom, _⟩⟩ := h3
  · rw [hv]
    refine ⟨_, run_slice_slice hn hr hT hz hl hh h1 (by omega), ?_⟩
    simp only [Rep]
    exact ⟨trivial, trivial, _, _, rfl, by omega, .inl (by omega)⟩
  · rw [hv]
    refine ⟨_, run_slice_slice hn hr hT hz hl hh h1 (by omega), ?_⟩
    simp only [Rep]
    refine ⟨trivial, trivial, _, _, rfl, by omega, ?_⟩
    by_cases h0 : h - l = 0
    · exact .inl h0
    · refine .inr ⟨hnil, ?_, ?_⟩
      · rw [if_neg (by omega)]
        simp [add_none, hLz]
      · refine Nat.le_trans (Nat.mul_le_mul_right _ ?_) hroom
        omega

theorem v_len_sub {c : Cert} {x : Operand} {T el : TypeId} {n t off : Nat} (hg : o.guard = none)
    (hop : o.op = .call { callee := .builtin .len, args := #[x], argTypes := #[T] }) (hc : c = { tn := c.tn, out := some (.sc (.int .i64 n)) })
    (hx : OpF c x (.sub t off n)) (hT : pureSem Γ.P (underlying T) = some (.slice el)) : Valid Γ ops o c := by
  rw [hc]
  refine valid_value hg rfl rfl fun β bs σ a w hn hr => ?_
  have h1 := OpF.rep (c := c) hx ⟨hn.1, by rw [hc]; simp, by rw [hc]; simp⟩ hr
  simp only [Rep] at h1
  obtain ⟨_, _, ad, cp, hv, _⟩ := h1
  refine ⟨.int .i64 n, ?_, fun d hd => by cases hd; simp [Rep]⟩
  rw [exec_builtin hop]
  simp only [builtin, List.map_toArray, List.map_cons, List.map_nil]
  rw [hv]
  refine run_bind_ok (a := Value.int .i64 n) (w' := w) ?_
  unfold Builtin.len_
  simp only [List.getElem?_toArray, List.getElem?_cons_zero]
  rw [run_bind_ok (pureSem_run _ _ w hT)]
  rfl

theorem v_index_sub {c : Cert} {x y : Operand} {T el : TypeId} {k : IntKind} {z n t off j : Nat} {i : Int} {xs : List (List D)} (hg : o.guard = none) (hop : o.op = .indexAddr T x y)
    (hc : c = { tn := c.tn, hn := c.hn, out := some (.pt t j 0) }) (hx : OpF c x (.sub t off n)) (hy : OpF c y (.sc (.int k i))) (hT : pureSem Γ.P (underlying T) = some (.slice el)) (hz : szOf Γ.P el = some z)
    (hi : 0 ≤ i) (hj : i < n) (hjj : off + i.toNat = j) (hh : (t, .row z xs) ∈ c.hn) : Valid Γ ops o c := by
  refine valid_val (d := .pt t j 0) (f := fun ρ => Instr.indexAt T (ρ x) (ρ y)) hg (fun ρ => by simp [execOp, hop]) (by rw [hc]) fun β bs σ a w hn hr => ?_
  have h1 := OpF.rep hx hn hr
  have h2 := OpF.rep hy hn hr
  obtain ⟨_, ⟨hLz, _⟩, _⟩ := HRep.get hr.hp (hn.2.1 _ hh)
  simp only [Rep] at h1 h2
  obtain ⟨_, _, ad, cp, hv, hcap, h3 | ⟨hnil, had, hroom⟩⟩ := h1
  · omega
  · refine ⟨.pointer (some ⟨(β t).b, (β t).o + j * (β t).z + 0, none⟩), ?_, by simp only [Rep]; exact ⟨trivial, trivial, hnil, trivial⟩⟩
    rw [h2.1, hv, had]
    unfold Instr.indexAt
    rw [run_bind_ok (a := (k, i)) (w' := w) rfl]
    simp only
    rw [run_bind_ok (pureSem_run _ _ w hT)]
    simp only
    rw [run_bind_ok (a := (some (⟨(β t).b, (β t).o + off * (β t).z, none⟩ : Addr), n, el)) (w' := w) rfl]
    rw [run_bind_ok (pureSem_run _ _ w hT)]
    simp only
    rw [if_pos ⟨hi, hj⟩]
    rw [run_bind_ok (pureSem_run _ _ w hz)]
    rw [add_none, hLz, ← hjj, Nat.add_mul, Nat.add_assoc]
    rfl

/-- Elements of a row are written over by what owns nothing. -/
theorem Rel.over {β : Nat → Loc} {bs : List Nat} {σ : St} {a : Act} {w : World} {c : Cert} {t z l : Nat} {xs ys : List (List D)} {vs : List Value} {v : Value} (h0 : ∀ t, t ∈ menT σ.tm ∨ t ∈ menH σ.hp → t ∈ σ.us) (hr : RelB Γ β bs σ a w)
    {dst : Option Nat} (hd : ∀ t, dst = some t → t < Γ.nt) (hhx : c.hx = [t]) (hhw : c.hw = [(t, .row z (xs.take l ++ ys ++ xs.drop (l + ys.length)))]) (hm : (t, .row z xs) ∈ σ.hp) (hnil : (β t).nil = false)
    (hl : l + ys.length ≤ xs.length) (hyz : ∀ y ∈ ys, y.length = z) (hE2 : ∀ N w', RepEs β N w' ys vs []) (ho : ∀ d, c.out = some d → ∀ N w', Rep β N w' true d v []) :
    Rel Γ (σ.upd dst c) (a.put dst v) (putCells w (β t).b ((β t).o + l * z) vs) := by
  obtain ⟨b1, b2, hp, ⟨hLz, hzz, hrow⟩, hrest⟩ := HRep.take hr.hp hr.keys hm
  rcases hrow with ⟨hnil', _⟩ | ⟨_, ws, hO, hE⟩
  · rw [hnil] at hnil'; cases hnil'
  have hown : (β t).own = [(β t).b] := by simp [Loc.own, hnil]
  rw [hown] at hp
  have hws := hE.length hzz
  have hvl := (hE2 (fun _ => True) w).length hyz
  have hfilt : σ.hp.filter (fun x => !c.hx.contains x.1) = σ.hp.filter (fun x => x.1 != t) := by
    rw [hhx]; congr 1; funext x; by_cases hx : x.1 = t <;> simp [hx]
  obtain ⟨d1, d2, e1, hs1, hs2⟩ := hE.cut l hzz
  obtain ⟨d3, d4, e2, hs3, hs4⟩ := hs2.cut ys.length (fun y hy => hzz y (List.mem_of_mem_drop hy))
  have hheap : (∀ b', b' ≠ (β t).b → (putCells w (β t).b ((β t).o + l * z) vs).heap[b']? = w.heap[b']?) ∧ (putCells w (β t).b ((β t).o + l * z) vs).heap.size = w.heap.size := by
    obtain ⟨arr, e, lo, hi, g1, g2, g3, g4⟩ := hO
    exact (putCells_heap g1).2
  have hp2 : bs.Perm (((β t).b :: b1) ++ b2) := by simpa using hp
  have hnd := hp2.nodup_iff.1 hr.nodup
  have hsub : ∀ b ∈ d1 ++ d4, b ∈ b1 := fun b hb => by
    rw [e1, e2]
    rcases List.mem_append.1 hb with h | h <;> simp [h]
  have hndn : ((β t).b :: (d1 ++ d4)).Nodup := by
    have q := (List.nodup_append.1 hnd).1
    rw [e1, e2] at q
    refine List.Nodup.sublist ?_ q
    refine List.Sublist.cons_cons _ ?_
    exact List.Sublist.append_left (List.sublist_append_right _ _) _
  have hbin : ∀ b ∈ d1 ++ d4, b ≠ (β t).b := fun b hb e => (List.nodup_cons.1 hndn).1 (e ▸ hb)
  have hmz : (l + ys.length) * z ≤ ws.length := by rw [hws]; exact Nat.mul_le_mul_right _ hl
  have hNS : ∀ b, NS Γ w bs b → NS Γ (putCells w (β t).b ((β t).o + l * z) vs) ((β t).b :: (d1 ++ d4) ++ b2) b ∧ (putCells w (β t).b ((β t).o + l * z) vs).heap[b]? = w.heap[b]? := by
    rintro b ⟨u1, u2, u3⟩
    have hb1 : b ≠ (β t).b := fun e => u3 (hp2.mem_iff.2 (by simp [e]))
    refine ⟨⟨u1, by rw [hheap.2]; exact u2, fun hb => u3 (hp2.mem_iff.2 ?_)⟩, hheap.1 b hb1⟩
    rcases List.mem_append.1 hb with hb | hb
    · rcases List.mem_cons.1 hb with hb | hb
      · exact List.mem_append_left _ (by simp [hb])
      · exact List.mem_append_left _ (List.mem_cons_of_mem _ (hsub b hb))
    · exact List.mem_append_right _ hb
  refine Rel.step (β1 := β) (bk := b2) (br := (β t).b :: b1) (bn := (β t).b :: (d1 ++ d4)) h0 hr hd (by rw [hhw]; simp) (by rw [hhw, hhx]; simp) hp2 (by rw [hfilt]; exact hrest) (by rw [hheap.2]; exact Nat.le_refl _)
    (fun b _ hb => hheap.1 b (fun e => hb (by simp [e]))) (fun _ _ => rfl) (fun _ _ => rfl) hndn ?_ ?_ (fun d hd => ho d hd _ _) (putCells_quiet _ _ _ _)
  · intro b hb
    rw [hheap.2]
    have : b ∈ (β t).b :: b1 := by
      rcases List.mem_cons.1 hb with rfl | hb
      · simp
      · exact List.mem_cons_of_mem _ (hsub b hb)
    exact ⟨.inl this, (hr.own b (hp2.mem_iff.2 (List.mem_append_left _ this))).1⟩
  · rw [hhw]
    refine ⟨d1 ++ d4, [], by rw [hown]; simp, ⟨hLz, ?_, .inr ⟨hnil, ws.take (l * z) ++ vs ++ ws.drop (l * z + vs.length), ?_, ?_⟩⟩, rfl⟩
    · intro q hq
      simp only [List.mem_append] at hq
      rcases hq with (hq | hq) | hq
      · exact hzz q (List.mem_of_mem_take hq)
      · exact hyz q hq
      · exact hzz q (List.mem_of_mem_drop hq)
    · obtain ⟨arr, e', lo, hi, g1, g2, g3, g4⟩ := hO
      have hle : (β t).o + ws.length ≤ arr.size := by
        rcases Nat.eq_zero_or_pos ws.length with e0 | e0
        · omega
        · have := g4 (ws.length - 1) (by omega)
          have := (Array.getElem?_eq_some_iff.1 this).1
          omega
      obtain ⟨arr', e'', lo', hi', u1, u2, u3, u4⟩ := own_put (r := ws.length) (vs := vs) (j := l * z) ⟨arr, e', lo, hi, g1, g2, hle, g4⟩ (by rw [hvl, ← Nat.add_mul]; exact hmz) (Nat.le_refl _)
      refine ⟨arr', e'', lo', hi', u1, u2, ?_, u4⟩
      have := (putCells_heap (off := (β t).o + l * z) (vs := vs) g1).1
      rw [this] at u1
      cases u1
      rw [spliceA_size]
      exact g3
    · have m1 := RepEs.frame (β' := β) hNS _ _ _ (fun b hb => hheap.1 b (hbin b (by simp [hb]))) hs1
      have m3 := RepEs.frame (β' := β) hNS _ _ _ (fun b hb => hheap.1 b (hbin b (by simp [hb]))) hs4
      have key := (m1.append (hE2 _ _)).append m3
      rw [List.append_nil] at key
      have ex : (xs.drop l).drop ys.length = xs.drop (l + ys.length) := by rw [List.drop_drop]
      have ew : (ws.drop (l * z)).drop (ys.length * z) = ws.drop (l * z + vs.length) := by rw [List.drop_drop, hvl]
      rw [ex, ew] at key
      exact key

/-- A row that is left as it is. -/
theorem Rel.noop {σ : St} {a : Act} {w : World} {c : Cert} {t : Nat} {e : Ent} (h : Rel Γ σ a w) (hm : (t, e) ∈ σ.hp) (hhx : c.hx = [t]) (hhw : c.hw = [(t, e)]) : Rel Γ (σ.upd none c) a w := by
  have h0 := h.1
  obtain ⟨_, β, bs, hr⟩ := h
  have ho : c.outs none = [] := rfl
  refine Rel.weak ⟨h0, β, bs, hr⟩ (fun y hy => ?_) (fun y hy => ?_) ?_ ?_
  · simp only [St.upd, ho, List.nil_append, List.mem_filter] at hy
    exact hy.1
  · simp only [St.upd, hhw, List.mem_append, List.mem_singleton, List.mem_filter] at hy
    rcases hy with rfl | hy
    · exact hm
    · exact hy.1
  · simp only [St.upd, hhw, hhx, List.map_append, List.map_cons, List.map_nil]
    refine List.nodup_append.2 ⟨by simp, List.Nodup.sublist (List.Sublist.map _ List.filter_sublist) hr.keys, ?_⟩
    intro q hq q' hq' e'
    subst e'
    obtain ⟨x, hx, rfl⟩ := List.mem_map.1 hq'
    have := (List.mem_filter.1 hx).2
    simp at hq this
    exact this hq
  · intro q hq
    simp only [St.upd, List.mem_append]
    refine .inr (h0 q ?_)
    rcases hq with hq | hq
    · obtain ⟨x, hx, hx'⟩ := List.mem_flatMap.1 hq
      simp only [St.upd, ho, List.nil_append, List.mem_filter] at hx
      exact .inl (List.mem_flatMap.2 ⟨x, hx.1, hx'⟩)
    · obtain ⟨x, hx, hx'⟩ := List.mem_flatMap.1 hq
      simp only [St.upd, hhw, List.mem_append, List.mem_singleton, List.mem_filter] at hx
      rcases hx with rfl | hx
      · exact .inr (List.mem_flatMap.2 ⟨_, hm, hx'⟩)
      · exact .inr (List.mem_flatMap.2 ⟨x, hx.1, hx'⟩)

theorem zeroCells_made (zc : Array Value) (n : Nat) : Builtin.zeroCells zc n = madeCells zc (n * zc.size) := rfl

/-- clear(s[l:h]). -/
theorem v_clear_sub {c : Cert} {x : Operand} {T el : TypeId} {z n l t : Nat} {zv : Value} {e : List D} {xs : List (List D)} (hg : o.guard = none) (hds : o.dst = none) (hop : o.op = .call { callee := .builtin .clear, args := #[x], argTypes := #[T] })
    (hc : c = { tn := c.tn, hn := c.hn, hx := [t], hw := [(t, .row z (xs.take l ++ List.replicate n e ++ xs.drop (l + n)))] }) (hx : OpF c x (.sub t l n)) (hT : Γ.P.underlying T = some (.slice el)) (hzv : pureSem Γ.P (zeroValue el) = some zv) (hzs : zv.cells.size = z)
    (hone : zv.cells.toList.all Value.oneCell = true) (he : Emb [] (zv.cells.toList.map D.sc) e []) (hel : e.length = z) (hl : l + n ≤ xs.length) (hh' : (t, .row z xs) ∈ c.hn) : Valid Γ ops o c := by
  intro σ a w Q hdst hn ⟨h0, β, bs, hr⟩
  have hwt : Region.wanted o (yielded ops a.tmps) = true := by simp [Region.wanted, hg]
  rw [if_pos hwt]
  have h1 := OpF.rep hx hn hr
  simp only [Rep] at h1
  obtain ⟨_, _, ad, cp, hv, hcap, h3⟩ := h1
  have hdst0 : ∀ v, a.put o.dst v = a := fun v => by rw [hds]; rfl
  by_cases hn0 : n = 0
  · subst hn0
    have hrun : (execOp a.eval o).run Γ.P w = .ok (.value (.tuple #[])) w := by
      rw [exec_builtin hop]
      simp only [builtin, List.map_toArray, List.map_cons, List.map_nil]
      rw [hv]
      refine run_bind_ok (a := Value.tuple #[]) (w' := w) ?_
      unfold Builtin.clear_
      simp only [List.getElem?_toArray, List.getElem?_cons_zero]
      rw [run_bind_ok (run_underlying hT w)]
      cases ad <;> rfl
    unfold Oper.wp
    rw [hrun, Oper.upon_value, hdst0, hds]
    exact Rel.noop (t := t) (e := .row z xs) ⟨h0, β, bs, hr⟩ (hn.2.1 _ hh') (by rw [hc]) (by rw [hc]; simp)
  · rcases h3 with h3 | ⟨hnil, had, hroom⟩
    · exact absurd h3 hn0
    obtain ⟨b1, b2, hp, ⟨hLz, hzz, hrow⟩, hrest⟩ := HRep.take hr.hp hr.keys (hn.2.1 _ hh')
    rcases hrow with ⟨hnil', _⟩ | ⟨_, ws, hO, hE⟩
    · rw [hnil] at hnil'; cases hnil'
    have hws := hE.length hzz
    have hcl : (madeCells zv.cells (n * zv.cells.size)).toList.length = n * z := by rw [Array.length_toList, size_madeCells, hzs]
    have hEn : ∀ N w', RepEs β N w' (List.replicate n e) (madeCells zv.cells (n * zv.cells.size)).toList [] := fun N w' => repEs_made he n
    have h1c : ∀ x ∈ (madeCells zv.cells (n * zv.cells.size)).toList, Value.oneCell x = true := by
      intro x hx
      simp only [madeCells, Array.toList_map, List.mem_map] at hx
      obtain ⟨i, hi, rfl⟩ := hx
      have hi' : i < n * zv.cells.size := by simpa using hi
      have hpos : 0 < zv.cells.size := by
        rcases Nat.eq_zero_or_pos zv.cells.size with h | h
        · rw [h] at hi'; simp at hi'
        · exact h
      rw [getElem!_pos zv.cells _ (Nat.mod_lt _ hpos)]
      exact List.all_eq_true.1 hone _ (by simp)
    have hrun : (execOp a.eval o).run Γ.P w = .ok (.value (.tuple #[])) (putCells w (β t).b ((β t).o + l * z) (madeCells zv.cells (n * zv.cells.size)).toList) := by
      rw [exec_builtin hop]
      simp only [builtin, List.map_toArray, List.map_cons, List.map_nil]
      rw [hv, had]
      refine run_bind_ok (a := Value.tuple #[]) (w' := putCells w (β t).b ((β t).o + l * z) (madeCells zv.cells (n * zv.cells.size)).toList) ?_
      unfold Builtin.clear_
      simp only [List.getElem?_toArray, List.getElem?_cons_zero]
      rw [run_bind_ok (run_underlying hT w)]
      obtain ⟨m, rfl⟩ : ∃ m, n = m + 1 := ⟨n - 1, by omega⟩
      simp only
      obtain ⟨arr, e', lo, hi, g1, g2, g3, g4⟩ := hO
      have hle : (β t).o + ws.length ≤ arr.size := by
        rcases Nat.eq_zero_or_pos ws.length with e0 | e0
        · have : (l + (m + 1)) * z ≤ ws.length := by rw [hws]; exact Nat.mul_le_mul_right _ hl
          have g5 : (β t).o + (β t).r ≤ arr.size := g3
          omega
        · have := g4 (ws.length - 1) (by omega)
          have := (Array.getElem?_eq_some_iff.1 this).1
          omega
      have hmz : (l + (m + 1)) * z ≤ ws.length := by rw [hws]; exact Nat.mul_le_mul_right _ hl
      have hst := run_storeCells (P := Γ.P) (off := (β t).o + l * z) (madeCells zv.cells ((m + 1) * zv.cells.size)).toList 0 w arr g1 g2 (by rw [hcl]; rw [Nat.add_mul] at hmz; omega) h1c
      rw [run_bind_ok (pureSem_run _ _ w hzv), zeroCells_made, hLz]
      refine (run_bind_ok (a := ()) (w' := putCells w (β t).b ((β t).o + l * z) (madeCells zv.cells ((m + 1) * zv.cells.size)).toList) ?_).trans rfl
      simpa using hst
    unfold Oper.wp
    rw [hrun, Oper.upon_value]
    refine Rel.over (l := l) (ys := List.replicate n e) h0 hr hdst (by rw [hc]) (by rw [hc]; simp) (hn.2.1 _ hh') hnil (by simpa using hl) (fun y hy => by rw [List.eq_of_mem_replicate hy]; exact hel) hEn (fun d hd => ?_)
    rw [hc] at hd
    cases hd

end
end Go.Im

import Derived.Test.YtbifnchjphefeaaDoorIm26
import Derived.Laws.MakeOwn
set_option linter.unusedVariables false
namespace Go.Im
open Go

def mk {α : Type} (bytes : Nat) (n : Int) (a : α) : Option (List α) := if 0 ≤ n ∧ bytes * n.toNat ≤ 281474976710656 ∧ n ≤ 9223372036854775807 then some (List.replicate n.toNat a) else none

section
variable {Γ : Ctx} {ops : Array Oper} {o : Oper}

theorem madeCells_split (z : Array Value) (n : Nat) : (madeCells z ((n + 1) * z.size)).toList = z.toList ++ (madeCells z (n * z.size)).toList := by
  by_cases h0 : z.size = 0
  · have : z = #[] := Array.eq_empty_of_size_eq_zero h0
    subst this
    simp [madeCells]
  · apply List.ext_getElem
    · simp [madeCells, Nat.add_mul, Nat.add_comm]
    · intro i h1 h2
      simp only [madeCells, Array.toList_map, Array.toList_range, List.getElem_map, List.getElem_range]
      simp [madeCells] at h1 h2
      have hm : i % z.size < z.size := Nat.mod_lt _ (by omega)
      rw [getElem!_pos z _ hm]
      by_cases hi : i < z.size
      · rw [List.getElem_append_left (by simpa using hi)]
        simp [Nat.mod_eq_of_lt hi]
      · rw [List.getElem_append_right (by simp; omega)]
        simp only [List.getElem_map, List.getElem_range, Array.length_toList]
        have hm2 : (i - z.size) % z.size < z.size := Nat.mod_lt _ (by omega)
        rw [getElem!_pos z _ hm2]
        congr 1
        rw [Nat.mod_eq_sub_mod (by omega)]

theorem repEs_made {β : Nat → Loc} {N : Nat → Prop} {w : World} {zv : Value} {e : List D} (he : Emb [] (zv.cells.toList.map D.sc) e []) : ∀ (n : Nat), RepEs β N w (List.replicate n e) (madeCells zv.cells (n * zv.cells.size)).toList []
  | 0 => by simp [RepEs, madeCells]
  | n + 1 => by
    rw [madeCells_split, List.replicate_succ]
    simp only [RepEs]
    obtain ⟨b1, bk, q1, q2, _⟩ := Emb.rep (β := β) (N := N) (w := w) he (hp := []) (bs := []) rfl (by simp) (by simp) (repCs_sc _)
    have : b1 = [] := (List.append_eq_nil_iff.1 (List.nil_perm.1 q1)).1
    subst this
    exact ⟨_, _, [], [], rfl, rfl, q2, repEs_made he n⟩

/-- make([]T, n). -/
theorem v_mkslice {c : Cert} {x y : Operand} {T el : TypeId} {k1 k2 : IntKind} {n z t bytes : Nat} {zv : Value} {e : List D} (hg : o.guard = none) (hop : o.op = .makeSlice T x y)
    (hc : c = { tn := c.tn, hn := c.hn, out := some (.rf t 0 n none), hw := [(t, .row z (List.replicate n e))], fr := [t] }) (hm : Γ.m ≤ t) (hx : OpF c x (.sc (.int k1 n))) (hy : OpF c y (.sc (.int k2 n)))
    (hT : Γ.P.underlying T = some (.slice el)) (hinfo : (Γ.P.info? el).map (fun i => (i.zero, i.size, i.bytes)) = some (some zv, z, bytes)) (hzs : zv.cells.size = z) (he : Emb [] (zv.cells.toList.map D.sc) e []) (hel : e.length = z)
    (hb : bytes * n ≤ 281474976710656) (h63 : n ≤ 9223372036854775807) : Valid Γ ops o c := by
  intro σ a w Q hdst hn ⟨h0, β, bs, hr⟩
  have hwt : Region.wanted o (yielded ops a.tmps) = true := by simp [Region.wanted, hg]
  rw [if_pos hwt]
  have hfr : t ∉ σ.us := hn.2.2 t (by rw [hc]; simp)
  obtain ⟨i, hi, hz0, rfl, rfl⟩ := info_of hinfo
  have h1 := OpF.rep hx hn hr
  have h2 := OpF.rep hy hn hr
  simp only [Rep] at h1 h2
  have hbi : (i.bytes : Int) * (n : Int) ≤ 281474976710656 := by
    have : ((i.bytes * n : Nat) : Int) ≤ 281474976710656 := by omega
    rwa [Int.natCast_mul] at this
  have hrun : (execOp a.eval o).run Γ.P w = .ok (.value (.slice (some ⟨w.heap.size, 0, none⟩) n n)) (w.alloc (.cells (madeCells zv.cells (n * i.size)) el)) := by
    refine exec_v (s := Instr.makeSlice T (a.eval x) (a.eval y)) (by simp [execOp, hop]) ?_
    rw [h1.1, h2.1]
    have := run_make (P := Γ.P) w T el i zv hT hi hz0 k1 k2 n n (by omega) (Int.le_refl _) hbi (by omega)
    simpa using this
  unfold Oper.wp
  rw [hrun, Oper.upon_value]
  exact Rel.newRow (Γ := Γ) (arr := madeCells zv.cells (n * i.size)) (el := el) (t := t) (z := i.size) (n := n) (cp := n) (xs := List.replicate n e) (ws := (madeCells zv.cells (n * i.size)).toList) (b1 := []) (bk := bs) h0 hr hdst (by rw [hc]) hfr hm
    (.refl _) (by rw [hc]; exact (filt_nil σ.hp).symm ▸ hr.hp) (fun x hx => by rw [List.eq_of_mem_replicate hx]; exact hel) (by simp) (by rw [← hzs]; exact repEs_made he n) ⟨[], by simp⟩ (Nat.le_refl _) (by rw [size_madeCells]; exact Nat.le_refl _) rfl (by rw [hc]) ⟨rfl, rfl⟩

theorem RepEs.cons {β : Nat → Loc} {N : Nat → Prop} {w : World} {e : List D} {xs : List (List D)} {w1 w2 : List Value} {b1 b2 : List Nat} (h1 : RepCs β N w false e w1 b1) (h2 : RepEs β N w xs w2 b2) : RepEs β N w (e :: xs) (w1 ++ w2) (b1 ++ b2) := by
  simp only [RepEs]
  exact ⟨w1, w2, b1, b2, rfl, rfl, h1, h2⟩

theorem RepEs.len {β : Nat → Loc} {N : Nat → Prop} {w : World} {z : Nat} {xs : List (List D)} {ws : List Value} {bs : List Nat} (h : RepEs β N w xs ws bs) (hz : ∀ x ∈ xs, x.length = z) : ws.length = xs.length * z := h.length hz

/-- A store into a row that is owned. -/
theorem v_store_row {c : Cert} {x y : Operand} {T : TypeId} {xs : List (List D)} {e es' : List D} {d : D} {t i j z : Nat} {ts : List Nat} {hm : List (Nat × Ent)} (hg : o.guard = none) (hop : o.op = .store T x y) (hds : o.dst = none)
    (hc : c = { tn := c.tn, hn := c.hn, hx := t :: ts, hw := [(t, .row z (xs.set i (e.take j ++ es' ++ e.drop (j + (cellsD d).length))))] }) (hx : OpF c x (.pt t i j)) (hy : OpF c y d)
    (hd : (cellsD d).all D.cell = true) (hz : szOf Γ.P T = some (cellsD d).length) (hj : j + (cellsD d).length ≤ z) (hh : (t, .row z xs) ∈ c.hn) (he : xs[i]? = some e) (hem : Emb hm (cellsD d) es' ts) (hmn : ∀ q ∈ hm, q ∈ c.hn ∧ q.1 ≠ t) : Valid Γ ops o c := by
  intro σ a w Q hdst hn ⟨h0, β, bs, hr⟩
  have hwt : Region.wanted o (yielded ops a.tmps) = true := by simp [Region.wanted, hg]
  rw [if_pos hwt]
  have h1 := OpF.rep hx hn hr
  have h2 := OpF.rep hy hn hr
  obtain ⟨h3, h4⟩ := cells_rep hd h2
  simp only [Rep] at h1
  obtain ⟨b1, b2, hp, ⟨hLz, hzz, hrow⟩, hrest⟩ := HRep.take hr.hp hr.keys (hn.2.1 _ hh)
  rcases hrow with ⟨hnil, _⟩ | ⟨hnil, ws, hO, hE⟩
  · rw [h1.2.2.1] at hnil; cases hnil
  have hown : (β t).own = [(β t).b] := by simp [Loc.own, hnil]
  rw [hown] at hp
  have hkf : ((σ.hp.filter (fun x => x.1 != t)).map (·.1)).Nodup := List.Nodup.sublist (List.Sublist.map _ List.filter_sublist) hr.keys
  obtain ⟨c1, ck, k1, k2, k3⟩ := Emb.rep hem hrest hkf (fun q hq _ => List.mem_filter.2 ⟨hn.2.1 _ (hmn q hq).1, by simpa using (hmn q hq).2⟩) h3
  have hvl := h3.length
  have hws := hE.length hzz
  have hlt : i < xs.length := (List.getElem?_eq_some_iff.1 he).1
  have hiz : i * z + z ≤ ws.length := by
    rw [hws, ← Nat.succ_mul]; exact Nat.mul_le_mul_right _ hlt
  have hrun : (execOp a.eval o).run Γ.P w = .ok .skip (putCells w (β t).b ((β t).o + (i * z + j)) (a.eval y).cells.toList) := by
    have e : execOp a.eval o = (do Instr.storeAt T (a.eval x) (a.eval y); pure .skip) := by simp [execOp, hop]
    rw [e]
    refine (run_bind_ok (a := ()) (w' := putCells w (β t).b ((β t).o + (i * z + j)) (a.eval y).cells.toList) ?_).trans rfl
    rw [h1.2.2.2, hLz, Nat.add_assoc]
    obtain ⟨arr, e, lo, hi, g1, g2, g3, g4⟩ := hO
    refine run_storeVar (r := ws.length) (ws := ws) hz (by rw [hvl]) h4 ⟨arr, e, lo, hi, g1, g2, ?_, g4⟩ (by omega)
    rcases Nat.eq_zero_or_pos ws.length with e0 | e0
    · omega
    · have := g4 (ws.length - 1) (by omega)
      have := (Array.getElem?_eq_some_iff.1 this).1
      omega
  unfold Oper.wp
  rw [hrun, Oper.upon_skip]
  have hheap : (∀ b', b' ≠ (β t).b → (putCells w (β t).b ((β t).o + (i * z + j)) (a.eval y).cells.toList).heap[b']? = w.heap[b']?) ∧ (putCells w (β t).b ((β t).o + (i * z + j)) (a.eval y).cells.toList).heap.size = w.heap.size := by
    obtain ⟨arr, e, lo, hi, g1, g2, g3, g4⟩ := hO
    exact (putCells_heap g1).2
  -- the pieces of what is owned
  obtain ⟨q1, q2, q3, eb, hs2, hs1, hs3⟩ := hE.get hzz he
  obtain ⟨p1, p2, e1, hs4, hs5⟩ := hs2.split j
  obtain ⟨p3, p4, e2, hs6, hs7⟩ := hs5.split (cellsD d).length
  have hp2 : bs.Perm (((β t).b :: (b1 ++ c1)) ++ ck) := by
    exact hp.trans (List.Perm.cons _ (by show (b1 ++ b2).Perm ((b1 ++ c1) ++ ck); rw [List.append_assoc]; exact List.Perm.append_left _ k1))
  have hnd := hp2.nodup_iff.1 hr.nodup
  simp only [List.cons_append, List.nodup_cons, List.mem_append, not_or] at hnd
  have hsub : ∀ b, b ∈ q1 ++ ((p1 ++ c1 ++ p4) ++ q3) → b ∈ b1 ++ c1 := fun b hb => by
    rw [eb, e1, e2]
    simp only [List.mem_append] at hb ⊢
    rcases hb with h | ((h | h) | h) | h <;> simp [h]
  have hndb : (b1 ++ c1).Nodup := (List.nodup_append.1 hnd.2).1
  have hnd1 : (q1 ++ ((p1 ++ c1 ++ p4) ++ q3)).Nodup := by
    have hperm : (q1 ++ ((p1 ++ c1 ++ p4) ++ q3)).Perm ((q1 ++ (p1 ++ p4) ++ q3) ++ c1) := by
      simp only [List.append_assoc]
      refine List.Perm.append_left _ (List.Perm.append_left _ ?_)
      rw [← List.append_assoc p4 q3 c1]
      exact List.perm_append_comm
    refine hperm.nodup_iff.2 (List.Nodup.sublist ?_ hndb)
    refine List.Sublist.append_right ?_ _
    rw [eb, e1, e2]
    refine List.Sublist.append_right (List.Sublist.append_left ?_ _) _
    exact List.Sublist.append_left (List.sublist_append_right _ _) _
  have hbin : ∀ b ∈ b1 ++ c1, b ≠ (β t).b := fun b hb e => by
    subst e
    rcases List.mem_append.1 hb with h | h
    · exact hnd.1.1.1 h
    · exact hnd.1.1.2 h
  refine Rel.step (β1 := β) (bk := ck) (br := (β t).b :: (b1 ++ c1)) (bn := (β t).b :: (q1 ++ ((p1 ++ c1 ++ p4) ++ q3))) h0 hr hdst (by rw [hc]; simp) (by rw [hc]; simp) hp2 ?_ ?_ ?_ (fun _ _ => rfl) (fun _ _ => rfl) ?_ ?_ ?_ ?_ (putCells_quiet _ _ _ _)
  · rw [hc, ← filt_cons]; exact k3
  · rw [hheap.2]; exact Nat.le_refl _
  · intro b _ hb
    exact hheap.1 b (fun e => hb (by simp [e]))
  · exact List.nodup_cons.2 ⟨fun h => hbin _ (hsub _ h) rfl, hnd1⟩
  · intro b hb
    rw [hheap.2]
    have : b ∈ (β t).b :: (b1 ++ c1) := by
      rcases List.mem_cons.1 hb with rfl | hb
      · simp
      · exact List.mem_cons_of_mem _ (hsub b hb)
    exact ⟨.inl this, (hr.own b (hp2.mem_iff.2 (List.mem_append_left _ this))).1⟩
  · rw [hc]
    have hfr : ∀ b, (NS Γ w bs b → NS Γ (putCells w (β t).b ((β t).o + (i * z + j)) (a.eval y).cells.toList) ((β t).b :: (q1 ++ ((p1 ++ c1 ++ p4) ++ q3)) ++ ck) b ∧ (putCells w (β t).b ((β t).o + (i * z + j)) (a.eval y).cells.toList).heap[b]? = w.heap[b]?) := by
      rintro b ⟨u1, u2, u3⟩
      have hb1 : b ≠ (β t).b := fun e => u3 (hp2.mem_iff.2 (by simp [e]))
      refine ⟨⟨u1, by rw [hheap.2]; exact u2, ?_⟩, hheap.1 b hb1⟩
      intro hb
      refine u3 (hp2.mem_iff.2 ?_)
      rcases List.mem_append.1 hb with hb | hb
      · rcases List.mem_cons.1 hb with hb | hb
        · exact List.mem_append_left _ (by simp [hb])
        · exact List.mem_append_left _ (List.mem_cons_of_mem _ (hsub b hb))
      · exact List.mem_append_right _ hb
    have hfb : ∀ b ∈ q1 ++ ((p1 ++ c1 ++ p4) ++ q3), (putCells w (β t).b ((β t).o + (i * z + j)) (a.eval y).cells.toList).heap[b]? = w.heap[b]? := fun b hb => hheap.1 b (hbin b (hsub b hb))
    have hel : e.length = z := hzz e (List.mem_of_getElem? he)
    have hel' : (e.take j ++ es' ++ e.drop (j + (cellsD d).length)).length = z := by
      have := hem.lengths
      simp; omega
    refine ⟨q1 ++ ((p1 ++ c1 ++ p4) ++ q3), [], by rw [hown]; simp, ⟨hLz, ?_, .inr ⟨hnil, ws.take (i * z + j) ++ (a.eval y).cells.toList ++ ws.drop (i * z + j + (a.eval y).cells.toList.length), ?_, ?_⟩⟩, rfl⟩
    · intro q hq
      rcases List.mem_or_eq_of_mem_set hq with hq | rfl
      · exact hzz q hq
      · exact hel'
    · obtain ⟨arr, e', lo, hi, g1, g2, g3, g4⟩ := hO
      have hle : (β t).o + ws.length ≤ arr.size := by
        rcases Nat.eq_zero_or_pos ws.length with e0 | e0
        · omega
        · have := g4 (ws.length - 1) (by omega)
          have := (Array.getElem?_eq_some_iff.1 this).1
          omega
      obtain ⟨arr', e'', lo', hi', u1, u2, u3, u4⟩ := own_put (r := ws.length) (vs := (a.eval y).cells.toList) (j := i * z + j) ⟨arr, e', lo, hi, g1, g2, hle, g4⟩ (by rw [hvl]; omega) (Nat.le_refl _)
      refine ⟨arr', e'', lo', hi', u1, u2, ?_, u4⟩
      have := (putCells_heap (off := (β t).o + (i * z + j)) (vs := (a.eval y).cells.toList) g1).1
      rw [this] at u1
      cases u1
      rw [spliceA_size]
      exact g3
    · have m1 := RepEs.frame (β' := β) hfr _ _ _ (fun b hb => hfb b (by simp [hb])) hs1
      have m2 := RepCs.frame0 (β' := β) hfr _ _ _ (fun b hb => hfb b (by simp [hb])) hs4
      have m3 := RepCs.frame0 (β' := β) hfr _ _ _ (fun b hb => hfb b (by simp [hb])) k2
      have m4 := RepCs.frame0 (β' := β) hfr _ _ _ (fun b hb => hfb b (by simp [hb])) hs7
      have m5 := RepEs.frame (β' := β) hfr _ _ _ (fun b hb => hfb b (by simp [hb])) hs3
      have key := m1.append (RepEs.cons ((m2.append m3).append m4) m5)
      have exs : xs.set i (e.take j ++ es' ++ e.drop (j + (cellsD d).length)) = xs.take i ++ (e.take j ++ es' ++ (e.drop j).drop (cellsD d).length) :: xs.drop (i + 1) := by
        rw [List.set_eq_take_append_cons_drop, if_pos hlt, List.drop_drop]
      have ews : ws.take (i * z + j) ++ (a.eval y).cells.toList ++ ws.drop (i * z + j + (a.eval y).cells.toList.length) =
          ws.take (i * z) ++ (((((ws.drop (i * z)).take z).take j ++ (a.eval y).cells.toList) ++ ((((ws.drop (i * z)).take z).drop j).drop (cellsD d).length)) ++ ws.drop ((i + 1) * z)) := by
        rw [← hvl]
        have t1 : ws.take (i * z + j) = ws.take (i * z) ++ ((ws.drop (i * z)).take z).take j := by
          rw [List.take_add, List.take_take, Nat.min_eq_left (by omega)]
        have t2 : ws.drop (i * z + j + (a.eval y).cells.toList.length) = ((((ws.drop (i * z)).take z).drop j).drop (a.eval y).cells.toList.length) ++ ws.drop ((i + 1) * z) := by
          have u1 : ws.drop ((i + 1) * z) = ((ws.drop (i * z)).drop (j + (a.eval y).cells.toList.length)).drop (z - (j + (a.eval y).cells.toList.length)) := by
            rw [List.drop_drop, List.drop_drop]; congr 1; rw [Nat.add_mul]; omega
          have u2 : (((ws.drop (i * z)).take z).drop j).drop (a.eval y).cells.toList.length = ((ws.drop (i * z)).drop (j + (a.eval y).cells.toList.length)).take (z - (j + (a.eval y).cells.toList.length)) := by
            rw [List.drop_drop, List.drop_take]
          rw [u1, u2, List.take_append_drop, List.drop_drop, Nat.add_assoc]
        rw [t1, t2]
        simp only [List.append_assoc]
      rw [exs, ews]
      simpa using key
  · rw [hc]; simp

theorem o_mkslice {c : Cert} {x y : Operand} {T el : TypeId} {k1 k2 : IntKind} {n : Int} {z t bytes : Nat} {zv : Value} {α : Type} {enc : α → List D} {a : α} {xs : List α} (h : mk bytes n a = some xs) (hm : Γ.m ≤ t) (hg : o.guard = none) (hop : o.op = .makeSlice T x y)
    (hc : c = { tn := c.tn, hn := c.hn, out := some (.rf t 0 xs.length none), hw := [(t, .row z (xs.map enc))], fr := [t] }) (hx : OpF c x (.sc (.int k1 n))) (hy : OpF c y (.sc (.int k2 n)))
    (hT : Γ.P.underlying T = some (.slice el)) (hinfo : (Γ.P.info? el).map (fun i => (i.zero, i.size, i.bytes)) = some (some zv, z, bytes)) (hzs : zv.cells.size = z) (he : Emb [] (zv.cells.toList.map D.sc) (enc a) []) (hel : (enc a).length = z) : Valid Γ ops o c := by
  unfold mk at h
  split at h
  · rename_i hh
    cases h
    have hn : n = (n.toNat : Int) := by omega
    refine v_mkslice (n := n.toNat) (e := enc a) hg hop ?_ hm (k1 := k1) (k2 := k2) (by rw [← hn]; exact hx) (by rw [← hn]; exact hy) hT hinfo hzs he hel hh.2.1 (by omega)
    rw [List.length_replicate, List.map_replicate] at hc
    exact hc
  · cases h

theorem o_store_row {c : Cert} {x y : Operand} {T : TypeId} {α : Type} {enc : α → List D} {xs : List α} {a b : α} {ix : Int} {es' : List D} {d : D} {t j z : Nat} {ts : List Nat} {hm : List (Nat × Ent)} (h : idx xs ix = some a) (hg : o.guard = none) (hop : o.op = .store T x y) (hds : o.dst = none)
    (hc : c = { tn := c.tn, hn := c.hn, hx := t :: ts, hw := [(t, .row z ((xs.set ix.toNat b).map enc))] }) (hx : OpF c x (.pt t ix.toNat j)) (hy : OpF c y d) (hb : enc b = (enc a).take j ++ es' ++ (enc a).drop (j + (cellsD d).length))
    (hd : (cellsD d).all D.cell = true) (hz : szOf Γ.P T = some (cellsD d).length) (hj : j + (cellsD d).length ≤ z) (hh : (t, .row z (xs.map enc)) ∈ c.hn) (hem : Emb hm (cellsD d) es' ts) (hmn : ∀ q ∈ hm, q ∈ c.hn ∧ q.1 ≠ t) : Valid Γ ops o c := by
  obtain ⟨h1, h2⟩ := idx_some h
  refine v_store_row (e := enc a) (es' := es') hg hop hds ?_ hx hy hd hz hj hh (by rw [List.getElem?_map, h2]; rfl) hem hmn
  rw [List.map_set, hb] at hc
  exact hc

/-- An operation that is not met: its guard is no truth value. -/
def notB : Value → Bool
  | .bool _ => false
  | _ => true

theorem valid_skip2 {g : Nat} {b : Bool} {t : Nat} {v : Value} (hv : notB v = true) (hg : o.guard = some (g, b)) (hgd : (ops[g]?).bind (·.dst) = some t) : Valid Γ ops o { tn := [(t, .sc v)] } := by
  intro σ a w Q hd hn hr
  obtain ⟨h0, β, bs, hrb⟩ := hr
  obtain ⟨u, h1, h2⟩ := hrb.tm t _ (hn.1 (t, .sc v) (by simp))
  simp only [Rep] at h2
  obtain ⟨rfl, _⟩ := h2
  have hwt : Region.wanted o (yielded ops a.tmps) = false := by
    cases u <;> simp_all [Region.wanted, yielded, notB]
  rw [if_neg (by simp [hwt])]
  exact Rel.put h0 hrb hd rfl rfl (by simp)

theorem orcSk {fc : Code} {p i g t : Nat} {b : Bool} {v : Value} (hv : notB v = true) (h : (opAt fc p i).map (fun o => o.guard) = some (some (g, b))) (hd : dstAt fc p g = some t) :
    ∀ id ops draw, sub fc p = .region id ops draw → ∀ o, ops[i]? = some o → Valid Γ ops o { tn := [(t, .sc v)] } := by
  intro id ops draw hs o ho
  have e : opAt fc p i = some o := by unfold opAt; rw [hs]; exact ho
  rw [e] at h
  simp at h
  refine valid_skip2 hv h ?_
  unfold dstAt opAt at hd
  rw [hs] at hd
  exact hd
end

section
variable {Γ : Ctx} {fc : Code} {k : List II} {σ : St} {T : Type} {K : T → Option (D × List Ent)}

/-- What lies in a temporary that is not known. -/
theorem J_stale {e : Option T} (t : Nat) (ht : t < Γ.nt) (h1 : J Γ fc k ⟨(t, .sc (.bool true)) :: σ.tm, σ.hp, σ.us⟩ e K) (h2 : J Γ fc k ⟨(t, .sc (.bool false)) :: σ.tm, σ.hp, σ.us⟩ e K)
    (h3 : ∀ v, notB v = true → J Γ fc k ⟨(t, .sc v) :: σ.tm, σ.hp, σ.us⟩ e K) : J Γ fc k σ e K := by
  intro r out he hk a w hrel
  have key : ∀ v, a.tmps[t]? = some v → Rel Γ ⟨(t, .sc v) :: σ.tm, σ.hp, σ.us⟩ a w := by
    intro v hv
    obtain ⟨h0, β, bs, h⟩ := hrel
    refine ⟨fun t' ht' => h0 t' ?_, β, bs, { defers := h.defers, size := h.size, keys := h.keys, par := h.par, grow := h.grow, gh := h.gh, quiet := h.quiet, keep := h.keep, hp := h.hp, nodup := h.nodup, own := h.own, tm := ?_ }⟩
    · rcases ht' with ht' | ht'
      · simp only [menT, List.flatMap_cons, D.men, List.nil_append] at ht'
        exact .inl ht'
      · exact .inr ht'
    · intro t' d hd
      rcases List.mem_cons.1 hd with hd | hd
      · cases hd
        exact ⟨v, hv, by simp [Rep]⟩
      · exact h.tm t' d hd
  have hsz : t < a.tmps.size := by
    obtain ⟨_, β, bs, h⟩ := hrel
    rw [h.size]; exact ht
  have hget : a.tmps[t]? = some a.tmps[t] := Array.getElem?_eq_getElem hsz
  generalize a.tmps[t] = v at hget
  cases v with
  | bool b =>
    cases b with
    | true => exact h1 r out he hk a w (key _ hget)
    | false => exact h2 r out he hk a w (key _ hget)
  | _ => exact h3 _ rfl r out he hk a w (key _ hget)
end
end Go.Im

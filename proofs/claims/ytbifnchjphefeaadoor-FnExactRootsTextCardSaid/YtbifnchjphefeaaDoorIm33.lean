import Derived.Test.YtbifnchjphefeaaDoorIm32
set_option linter.unusedVariables false
namespace Go.Im
open Go

section
variable {Γ : Ctx} {fc : Code} {k : List II} {σ : St} {T : Type} {K : T → Option (D × List Ent)}

/-- The row inside a row is given back. -/
theorem J_back {e0 : Option T} (t i j t' : Nat) {z z' n : Nat} {xs ys : List (List D)} {e : List D} (hl : lk σ.hp t = some (.lent z xs i j t' n)) (hl' : lk σ.hp t' = some (.row z' ys)) (hne : (t == t') = false) (he : xs[i]? = some e) (hjlt : j < e.length) (hyl : ys.length = n)
    (hj : J Γ fc k ⟨σ.tm, (t, .row z (xs.set i (e.set j (.s true z' n ys)))) :: (σ.hp.filter (fun x => x.1 != t)).filter (fun x => x.1 != t'), σ.us⟩ e0 K) : J Γ fc k σ e0 K := by
  refine J_weak (fun a w hr => ?_) hj
  obtain ⟨h0, β, bs, h⟩ := hr
  have hne : t ≠ t' := by simpa using hne
  obtain ⟨b1, bk, p, ⟨hnil, hLz, hzz, ws, hO, hE, v, hget, hv⟩, hrest⟩ := HRep.take h.hp h.keys (lk_mem hl)
  have hkf : ((σ.hp.filter (fun x => x.1 != t)).map (·.1)).Nodup := List.Nodup.sublist (List.Sublist.map _ List.filter_sublist) h.keys
  obtain ⟨c1, ck, p2, ⟨hLz', hzz', hrow'⟩, hrest2⟩ := HRep.take hrest hkf (List.mem_filter.2 ⟨lk_mem hl', by simpa using Ne.symm hne⟩)
  have hlt : i < xs.length := (List.getElem?_eq_some_iff.1 he).1
  have hel : e.length = z := hzz e (List.mem_of_getElem? he)
  have hmod := modify_eq (z := z) (j := j) he (fun c => c.set j .un)
  have hzm : ∀ x ∈ xs.modify i (fun c => c.set j .un), x.length = z := by
    intro x hx
    rw [hmod] at hx
    rcases List.mem_append.1 hx with hx | hx
    · exact hzz x (List.mem_of_mem_take hx)
    · rcases List.mem_cons.1 hx with rfl | hx
      · simpa using hel
      · exact hzz x (List.mem_of_mem_drop hx)
  have hme : (xs.modify i (fun c => c.set j .un))[i]? = some (e.set j .un) := by
    rw [List.getElem?_modify, he]; simp
  obtain ⟨q1, q2, q3, eb, hs2, hs1, hs3⟩ := hE.get hzm hme
  obtain ⟨p1, p2', e1, hs4, hs5⟩ := hs2.split j
  have hdj : (e.set j D.un).drop j = .un :: e.drop (j + 1) := by
    rw [List.drop_eq_getElem_cons (by simpa using hjlt)]
    congr 1
    · simp
    · rw [List.drop_set_of_lt (by omega)]
  have htj : (e.set j D.un).take j = e.take j := List.take_set_of_le (Nat.le_refl _)
  rw [hdj] at hs5
  rw [htj] at hs4
  simp only [RepCs] at hs5
  obtain ⟨v', vs, d1, d2, ev, e2, hun, hrest5⟩ := hs5
  simp only [Rep] at hun
  obtain ⟨hone, rfl⟩ := hun
  have hwsl := hE.length hzm
  rw [List.length_modify] at hwsl
  have hiz : i * z + z ≤ ws.length := by
    rw [hwsl, ← Nat.succ_mul]; exact Nat.mul_le_mul_right _ hlt
  have hvv : v' = v := by
    have : (((ws.drop (i * z)).take z).drop j)[0]? = some v' := by rw [ev]; rfl
    rw [List.getElem?_drop, List.getElem?_take, if_pos (by omega), List.getElem?_drop] at this
    simp only [Nat.add_zero] at this
    rw [hget] at this
    cases this
    rfl
  subst hvv
  -- the slice that is given back
  have hS : Rep β (NS Γ w bs) w false (.s true z' n ys) v' ((β t').own ++ c1) := by
    simp only [Rep] at hv ⊢
    refine ⟨hyl, hzz', ?_⟩
    obtain ⟨_, _, hv⟩ := hv
    rcases hv with ⟨hn', _, rfl, rfl⟩ | ⟨hn', c, rfl, hc, hroom, _⟩
    · rcases hrow' with ⟨_, rfl, rfl⟩ | ⟨hn2, _⟩
      · exact ⟨none, 0, rfl, Nat.le_refl _, .inl ⟨rfl, by simp [Loc.own, hn'], fun _ => ⟨rfl, rfl⟩⟩⟩
      · rw [hn'] at hn2; cases hn2
    · rcases hrow' with ⟨hn2, _⟩ | ⟨_, ws', hO', hE'⟩
      · rw [hn'] at hn2; cases hn2
      · refine ⟨_, c, rfl, hc, .inr (.inr ⟨trivial, (β t').b, _, ws', c1, rfl, by simp [Loc.own, hn'], ?_, hE'⟩)⟩
        obtain ⟨arr, et, lo, hi, g1, g2, g3, g4⟩ := hO'
        refine ⟨arr, et, lo, hi, g1, g2, ?_, ?_⟩
        · rw [hLz'] at hroom
          have : (0 + c) * z' = c * z' := by rw [Nat.zero_add]
          omega
        · simpa using g4
  have hperm : bs.Perm ((β t).own ++ ((q1 ++ (p1 ++ (((β t').own ++ c1) ++ d2)) ++ q3) ++ ck)) := by
    refine p.trans (List.Perm.append_left _ ?_)
    refine (List.Perm.append_left _ p2).trans ?_
    rw [eb, e1, e2]
    simp only [List.append_assoc, List.nil_append]
    refine List.Perm.append_left _ (List.Perm.append_left _ ?_)
    have h1 : ((d2 ++ q3) ++ ((β t').own ++ c1)).Perm (((β t').own ++ c1) ++ (d2 ++ q3)) := List.perm_append_comm
    have h2 := List.Perm.append_right ck h1
    simpa only [List.append_assoc] using h2
  have hNS : ∀ b, NS Γ w bs b → NS Γ w ((β t).own ++ ((q1 ++ (p1 ++ (((β t').own ++ c1) ++ d2)) ++ q3) ++ ck)) b := fun b hb => NS.sub (fun x hx => hperm.mem_iff.2 hx) hb
  have hfrm : ∀ b, NS Γ w bs b → NS Γ w ((β t).own ++ ((q1 ++ (p1 ++ (((β t').own ++ c1) ++ d2)) ++ q3) ++ ck)) b ∧ w.heap[b]? = w.heap[b]? := fun b hb => ⟨hNS b hb, rfl⟩
  refine ⟨?_, β, _, { defers := h.defers, size := h.size, keys := ?_, par := h.par, grow := h.grow, gh := h.gh, quiet := h.quiet, keep := h.keep, hp := ⟨_, ck, rfl, ?_, ?_⟩, nodup := hperm.nodup_iff.1 h.nodup, own := fun b hb => h.own b (hperm.mem_iff.2 hb), tm := ?_ }⟩
  · intro q hq
    rcases hq with hq | hq
    · exact h0 q (.inl hq)
    · simp only [menH, List.flatMap_cons, Ent.men, List.mem_append, List.mem_cons, List.not_mem_nil, or_false] at hq
      rcases hq with rfl | hq
      · exact h0 q (.inr (List.mem_flatMap.2 ⟨_, lk_mem hl, by simp⟩))
      · obtain ⟨x, hx, hx'⟩ := List.mem_flatMap.1 hq
        exact h0 q (.inr (List.mem_flatMap.2 ⟨x, (List.mem_filter.1 (List.mem_filter.1 hx).1).1, hx'⟩))
  · simp only [List.map_cons, List.nodup_cons]
    refine ⟨fun hin => ?_, List.Nodup.sublist (List.Sublist.map _ List.filter_sublist) hkf⟩
    obtain ⟨x, hx, hx'⟩ := List.mem_map.1 hin
    have := (List.mem_filter.1 (List.mem_filter.1 hx).1).2
    simp [hx'] at this
  · refine ⟨hLz, ?_, .inr ⟨hnil, ws, hO, ?_⟩⟩
    · intro x hx
      rcases List.mem_or_eq_of_mem_set hx with hx | rfl
      · exact hzz x hx
      · simpa using hel
    · have m1 := RepEs.frame (β' := β) hfrm _ _ _ (fun _ _ => rfl) hs1
      have m2 := RepCs.frame0 (β' := β) hfrm _ _ _ (fun _ _ => rfl) hs4
      have m3 := RepCs.frame0 (β' := β) hfrm _ _ _ (fun _ _ => rfl) hrest5
      have m5 := RepEs.frame (β' := β) hfrm _ _ _ (fun _ _ => rfl) hs3
      have mS := Rep.frame (β' := β) hfrm _ false v' _ (fun _ _ => rfl) (by simp [D.men]) hS
      have mu : RepCs β (NS Γ w ((β t).own ++ ((q1 ++ (p1 ++ (((β t').own ++ c1) ++ d2)) ++ q3) ++ ck))) w false [.s true z' n ys] [v'] ((β t').own ++ c1) := by
        simp only [RepCs]
        exact ⟨v', [], _, [], rfl, by simp, mS, rfl, rfl⟩
      have key := m1.append (RepEs.cons (m2.append (mu.append m3)) m5)
      have ee : e.set j (.s true z' n ys) = e.take j ++ ([D.s true z' n ys] ++ e.drop (j + 1)) := by
        rw [List.set_eq_take_append_cons_drop, if_pos hjlt]; rfl
      have ex : xs.set i (e.set j (.s true z' n ys)) = (xs.modify i (fun c => c.set j .un)).take i ++ (e.set j (.s true z' n ys)) :: (xs.modify i (fun c => c.set j .un)).drop (i + 1) := by
        have hti : (xs.take i).length = i := by simp; omega
        rw [List.set_eq_take_append_cons_drop, if_pos hlt, hmod]
        congr 1
        · rw [List.take_append_of_le_length (by omega), List.take_take, Nat.min_self]
        · congr 1
          have hcons : ∀ (l : List (List D)) (r : List (List D)) (q : List D), l.length = i → (l ++ q :: r).drop (i + 1) = r := by
            intro l r q hl2
            subst hl2
            simp [List.drop_append]
          exact (hcons _ _ _ hti).symm
      have ew : ws = ws.take (i * z) ++ ((((ws.drop (i * z)).take z).take j ++ ([v'] ++ vs)) ++ ws.drop ((i + 1) * z)) := by
        have u1 : ((ws.drop (i * z)).take z).take j ++ ([v'] ++ vs) = (ws.drop (i * z)).take z := by
          have : [v'] ++ vs = ((ws.drop (i * z)).take z).drop j := by rw [ev]; rfl
          rw [this, List.take_append_drop]
        have u2 : ws.drop ((i + 1) * z) = (ws.drop (i * z)).drop z := by rw [List.drop_drop]; congr 1; rw [Nat.add_mul]; omega
        rw [u1, u2, List.take_append_drop, List.take_append_drop]
      rw [ex, ee]
      rw [ew]
      simp only [List.append_assoc] at key ⊢
      exact key
  · exact HRep.frame (fun b hb => ⟨hNS b hb, rfl⟩) _ _ (fun _ _ => rfl) (fun _ _ => rfl) hrest2
  · intro q d hd
    obtain ⟨u, h1, h2⟩ := h.tm q d hd
    exact ⟨u, h1, Rep.frame (fun b hb => ⟨hNS b hb, rfl⟩) d true u [] (by simp) (fun _ _ => rfl) h2⟩
end

section
variable {Γ : Ctx} {ops : Array Oper} {o : Oper}

/-- The place of an element of a row of which a part is lent. -/
theorem v_index_lent {c : Cert} {x y : Operand} {T el : TypeId} {k : IntKind} {z n t off j a0 b0 t' n' : Nat} {i : Int} {cap : Option Nat} {xs : List (List D)} (hg : o.guard = none) (hop : o.op = .indexAddr T x y)
    (hc : c = { tn := c.tn, hn := c.hn, out := some (.pt t j 0) }) (hx : OpF c x (.rf t off n cap)) (hy : OpF c y (.sc (.int k i))) (hT : pureSem Γ.P (underlying T) = some (.slice el)) (hz : szOf Γ.P el = some z)
    (hi : 0 ≤ i) (hj : i < n) (hjj : off + i.toNat = j) (hh : (t, .lent z xs a0 b0 t' n') ∈ c.hn) : Valid Γ ops o c := by
  refine valid_val (d := .pt t j 0) (f := fun ρ => Instr.indexAt T (ρ x) (ρ y)) hg (fun ρ => by simp [execOp, hop]) (by rw [hc]) fun β bs σ a w hn hr => ?_
  have h1 := OpF.rep hx hn hr
  have h2 := OpF.rep hy hn hr
  obtain ⟨_, ⟨_, hLz, _⟩, _⟩ := HRep.get hr.hp (hn.2.1 _ hh)
  simp only [Rep] at h1 h2
  obtain ⟨_, _, ⟨_, _, rfl, _⟩ | ⟨hnil, cp, hv, hcap, hroom, _⟩⟩ := h1
  · omega
  · refine ⟨.pointer (some ⟨(β t).b, (β t).o + j * (β t).z + 0, none⟩), ?_, by simp only [Rep]; exact ⟨trivial, trivial, hnil, trivial⟩⟩
    rw [h2.1, hv]
    unfold Instr.indexAt
    rw [run_bind_ok (a := (k, i)) (w' := w) rfl]
    simp only
    rw [run_bind_ok (pureSem_run _ _ w hT)]
    simp only
    rw [run_bind_ok (a := (some (⟨(β t).b, (β t).o + off * (β t).z, none⟩ : Addr), n, el)) (w' := w) rfl]
    rw [run_bind_ok (pureSem_run _ _ w hT)]
    simp only
    rw [if_pos ⟨hi, hj⟩]
    rw [run_bind_ok (pureSem_run _ _ w hz)]
    rw [add_none, hLz, ← hjj, Nat.add_mul, Nat.add_assoc]
    rfl

theorem o_index_lent {c : Cert} {x y : Operand} {T el : TypeId} {k : IntKind} {z t a0 b0 t' n' : Nat} {i : Int} {cap : Option Nat} {α : Type} {enc : α → List D} {xs : List α} {a : α} (h : idx xs i = some a) (hg : o.guard = none) (hop : o.op = .indexAddr T x y)
    (hc : c = { tn := c.tn, hn := c.hn, out := some (.pt t i.toNat 0) }) (hx : OpF c x (.rf t 0 xs.length cap)) (hy : OpF c y (.sc (.int k i))) (hh : (t, .lent z (xs.map enc) a0 b0 t' n') ∈ c.hn) (hT : pureSem Γ.P (underlying T) = some (.slice el)) (hz : szOf Γ.P el = some z) : Valid Γ ops o c := by
  obtain ⟨h1, h2⟩ := idx_some h
  have hlt := (List.getElem?_eq_some_iff.1 h2).1
  exact v_index_lent hg hop hc hx hy hT hz h1 (by omega) (Nat.zero_add _) hh

/-- What is lent is met. -/
theorem o_load_lent {c : Cert} {x : Operand} {T : TypeId} {z t i j t' n : Nat} {xs : List (List D)} (hg : o.guard = none) (hop : o.op = .load T x) (hc : c = { tn := c.tn, hn := c.hn, out := some (.rf t' 0 n none) })
    (hx : OpF c x (.pt t i j)) (hh : (t, .lent z xs i j t' n) ∈ c.hn) (hd : ofCells Γ.P T [.rf t' 0 n none] = some (.rf t' 0 n none)) : Valid Γ ops o c := by
  refine valid_val (d := .rf t' 0 n none) (f := fun ρ => Instr.loadAt T (ρ x)) hg (fun ρ => by simp [execOp, hop]) (by rw [hc]) fun β bs σ a w hn hr => ?_
  have h1 := OpF.rep hx hn hr
  simp only [Rep] at h1
  obtain ⟨b1, ⟨hnil, hLz, hzz, ws, hO, hE, v, hget, hv⟩, _, _⟩ := HRep.get hr.hp (hn.2.1 _ hh)
  have hlt : i * z + j < ws.length := (List.getElem?_eq_some_iff.1 hget).1
  have hH : Has w (β t).b ((β t).o + (i * z + j)) [v] := by
    have := hO.cells (i * z + j) 1
    have e : (ws.drop (i * z + j)).take 1 = [v] := by
      rw [List.drop_eq_getElem_cons hlt]
      simp [(List.getElem?_eq_some_iff.1 hget).2]
    rw [e] at this
    exact this
  have hone : v.oneCell = true := Rep.oneCell (by trivial) hv
  have hcs : RepCs β (NS Γ w bs) w true [.rf t' 0 n none] [v] [] := by
    simp only [RepCs]
    exact ⟨v, [], [], [], rfl, rfl, hv, rfl, rfl⟩
  obtain ⟨u, h7, h8⟩ := run_loadVar hd hH (by simpa using hone) hcs
  refine ⟨u, ?_, h8⟩
  rw [h1.2.2.2, hLz, Nat.add_assoc]
  exact h7
end
end Go.Im

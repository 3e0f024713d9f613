import Derived.Test.YtbifnchjphefeaaDoorIm31
set_option linter.unusedVariables false
namespace Go.Im
open Go

/-! ### A row inside a row gets a name for a while -/
section
variable {Γ : Ctx} {fc : Code} {k : List II} {σ : St} {T : Type} {K : T → Option (D × List Ent)}

theorem modify_eq {z i j : Nat} {xs : List (List D)} {e : List D} (he : xs[i]? = some e) (f : List D → List D) : xs.modify i f = xs.take i ++ f e :: xs.drop (i + 1) := by
  have hlt : i < xs.length := (List.getElem?_eq_some_iff.1 he).1
  have hge : xs[i] = e := (List.getElem?_eq_some_iff.1 he).2
  rw [List.modify_eq_take_drop, List.drop_eq_getElem_cons hlt, hge]
  rfl

theorem J_lend {e0 : Option T} (t i j t' : Nat) {z z' n : Nat} {xs ys : List (List D)} {e : List D} (hl : lk σ.hp t = some (.row z xs)) (he : xs[i]? = some e) (hej : e[j]? = some (.s true z' n ys))
    (hf : (!σ.us.contains t' && Nat.ble Γ.m t') = true)
    (hj : J Γ fc k ⟨σ.tm, (t, .lent z xs i j t' n) :: (t', .row z' ys) :: σ.hp.filter (fun x => x.1 != t), t' :: σ.us⟩ e0 K) : J Γ fc k σ e0 K := by
  refine J_weak (fun a w hr => ?_) hj
  obtain ⟨h0, β, bs, h⟩ := hr
  simp only [Bool.and_eq_true, Bool.not_eq_eq_eq_not, Bool.not_true, List.contains_eq_mem, decide_eq_false_iff_not] at hf
  obtain ⟨hfr, hm⟩ := hf
  have hm := Nat.le_of_ble_eq_true hm
  obtain ⟨b1, bk, p, ⟨hLz, hzz, hrow⟩, hrest⟩ := HRep.take h.hp h.keys (lk_mem hl)
  rcases hrow with ⟨_, rfl, _⟩ | ⟨hnil, ws, hO, hE⟩
  · simp at he
  have hel : e.length = z := hzz e (List.mem_of_getElem? he)
  obtain ⟨q1, q2, q3, eb, hs2, hs1, hs3⟩ := hE.get hzz he
  obtain ⟨p1, p2, e1, hs4, hs5⟩ := hs2.split j
  have hjlt : j < e.length := (List.getElem?_eq_some_iff.1 hej).1
  have hdj : e.drop j = .s true z' n ys :: e.drop (j + 1) := by
    rw [List.drop_eq_getElem_cons hjlt]
    congr 1
    exact (List.getElem?_eq_some_iff.1 hej).2
  rw [hdj] at hs5
  simp only [RepCs] at hs5
  obtain ⟨v, vs, c1, c2, ev, e2, hv, hrest5⟩ := hs5
  obtain ⟨β1, g1, g2, g3⟩ := Nm.rep (N := NS Γ w bs) (w := w) β (Nm.own (z := z') (n := n) (xs := ys) t') (by simp) hv.up
  have htu : t ∈ σ.us := h0 t (.inr (List.mem_flatMap.2 ⟨_, lk_mem hl, by simp⟩))
  have hne : t ≠ t' := fun e => hfr (e ▸ htu)
  have hβt : β1 t = β t := g1 t (by simpa using hne)
  have hβu : ∀ q ∈ σ.us, β1 q = β q := fun q hq => g1 q (by simp; intro e; exact hfr (e ▸ hq))
  have hone : v.oneCell = true := Rep.oneCell (by trivial) hv
  have hown : (β t).own = [(β t).b] := by simp [Loc.own, hnil]
  have hwsl := hE.length hzz
  have hlt : i < xs.length := (List.getElem?_eq_some_iff.1 he).1
  have hiz : i * z + z ≤ ws.length := by
    rw [hwsl, ← Nat.succ_mul]; exact Nat.mul_le_mul_right _ hlt
  have hget : ws[i * z + j]? = some v := by
    have : (((ws.drop (i * z)).take z).drop j)[0]? = some v := by rw [ev]; rfl
    rw [List.getElem?_drop, List.getElem?_take, if_pos (by omega), List.getElem?_drop] at this
    simpa [Nat.add_comm] using this
  -- the blocks
  have hperm : bs.Perm ((β t).own ++ ((q1 ++ (p1 ++ c2) ++ q3) ++ (c1 ++ bk))) := by
    refine p.trans (List.Perm.append_left _ ?_)
    rw [eb, e1, e2]
    simp only [List.append_assoc]
    refine List.Perm.append_left _ (List.Perm.append_left _ ?_)
    have h1 : (c1 ++ (c2 ++ q3)).Perm ((c2 ++ q3) ++ c1) := List.perm_append_comm
    have h2 := List.Perm.append_right bk h1
    simpa only [List.append_assoc] using h2
  have hNS : ∀ b, NS Γ w bs b → NS Γ w ((β t).own ++ ((q1 ++ (p1 ++ c2) ++ q3) ++ (c1 ++ bk))) b := fun b hb => NS.sub (fun x hx => hperm.mem_iff.2 hx) hb
  have hfrm : ∀ b, NS Γ w bs b → NS Γ w ((β t).own ++ ((q1 ++ (p1 ++ c2) ++ q3) ++ (c1 ++ bk))) b ∧ w.heap[b]? = w.heap[b]? := fun b hb => ⟨hNS b hb, rfl⟩
  simp only [HRep] at g3
  obtain ⟨d1, d2, e3, g4, rfl⟩ := g3
  simp only [List.append_nil] at e3
  refine ⟨?_, β1, (β t).own ++ ((q1 ++ (p1 ++ c2) ++ q3) ++ (c1 ++ bk)), { defers := h.defers, size := h.size, keys := ?_, par := fun q hq => ?_, grow := h.grow, gh := h.gh, quiet := h.quiet, keep := h.keep, hp := ?_, nodup := hperm.nodup_iff.1 h.nodup, own := fun b hb => h.own b (hperm.mem_iff.2 hb), tm := ?_ }⟩
  · intro q hq
    rcases hq with hq | hq
    · exact List.mem_cons_of_mem _ (h0 q (.inl hq))
    · simp only [menH, List.flatMap_cons, Ent.men, List.mem_append, List.mem_cons, List.not_mem_nil, or_false] at hq
      rcases hq with (rfl | rfl) | rfl | hq
      · exact List.mem_cons_of_mem _ htu
      · simp
      · simp
      · obtain ⟨x, hx, hx'⟩ := List.mem_flatMap.1 hq
        exact List.mem_cons_of_mem _ (h0 q (.inr (List.mem_flatMap.2 ⟨x, (List.mem_filter.1 hx).1, hx'⟩)))
  · simp only [List.map_cons, List.nodup_cons, List.mem_cons, not_or]
    refine ⟨⟨hne, fun hin => ?_⟩, fun hin => ?_, List.Nodup.sublist (List.Sublist.map _ List.filter_sublist) h.keys⟩
    · obtain ⟨x, hx, hx'⟩ := List.mem_map.1 hin
      have := (List.mem_filter.1 hx).2
      simp [hx'] at this
    · obtain ⟨x, hx, hx'⟩ := List.mem_map.1 hin
      exact hfr (h0 t' (.inr (List.mem_flatMap.2 ⟨x, (List.mem_filter.1 hx).1, by simp [hx']⟩)))
  · rw [← h.par q hq]
    exact g1 q (by simp; omega)
  · refine ⟨q1 ++ (p1 ++ c2) ++ q3, c1 ++ bk, by rw [hβt], ?_, d1, bk, ?_, ?_, ?_⟩
    · rw [hβt]
      refine ⟨hnil, hLz, hzz, ws, hO, ?_, v, hget, Rep.frame hfrm _ true v [] (by simp) (fun _ _ => rfl) g2⟩
      rw [modify_eq (z := z) (j := j) he]
      have m1 := RepEs.frame (β' := β1) hfrm _ _ _ (fun _ _ => rfl) hs1
      have m2 := RepCs.frame0 (β' := β1) hfrm _ _ _ (fun _ _ => rfl) hs4
      have m3 := RepCs.frame0 (β' := β1) hfrm _ _ _ (fun _ _ => rfl) hrest5
      have m5 := RepEs.frame (β' := β1) hfrm _ _ _ (fun _ _ => rfl) hs3
      have mu : RepCs β1 (NS Γ w ((β t).own ++ ((q1 ++ (p1 ++ c2) ++ q3) ++ (c1 ++ bk)))) w false [.un] [v] [] := by
        simp only [RepCs, Rep]
        exact ⟨v, [], [], [], rfl, rfl, ⟨hone, rfl⟩, rfl, rfl⟩
      have key := m1.append (RepEs.cons (m2.append (mu.append m3)) m5)
      have ee : e.set j .un = e.take j ++ ([D.un] ++ e.drop (j + 1)) := by
        rw [List.set_eq_take_append_cons_drop, if_pos hjlt]; rfl
      have ew : ws = ws.take (i * z) ++ ((((ws.drop (i * z)).take z).take j ++ ([v] ++ vs)) ++ ws.drop ((i + 1) * z)) := by
        have u1 : ((ws.drop (i * z)).take z).take j ++ ([v] ++ vs) = (ws.drop (i * z)).take z := by
          have : [v] ++ vs = ((ws.drop (i * z)).take z).drop j := by rw [ev]; rfl
          rw [this, List.take_append_drop]
        have u2 : ws.drop ((i + 1) * z) = (ws.drop (i * z)).drop z := by rw [List.drop_drop]; congr 1; rw [Nat.add_mul]; omega
        rw [u1, u2, List.take_append_drop, List.take_append_drop]
      rw [ee]
      rw [ew]
      simp only [List.append_assoc] at key ⊢
      simpa only [List.append_nil, List.nil_append] using key
    · rw [e3, List.append_assoc]
    · exact g4.frame (fun b hb => ⟨hNS b hb, rfl⟩) (fun _ _ => rfl) (fun _ => rfl) (fun _ _ => rfl)
    · refine HRep.frame (fun b hb => ⟨hNS b hb, rfl⟩) _ _ (fun _ _ => rfl) (fun q hq => hβu q ?_) hrest
      obtain ⟨x, hx, hx'⟩ := List.mem_flatMap.1 hq
      exact h0 q (.inr (List.mem_flatMap.2 ⟨x, (List.mem_filter.1 hx).1, hx'⟩))
  · intro q d hd
    obtain ⟨u, h1, h2⟩ := h.tm q d hd
    exact ⟨u, h1, Rep.frame (fun b hb => ⟨hNS b hb, rfl⟩) d true u [] (by simp) (fun y hy => hβu y (h0 y (.inl (List.mem_flatMap.2 ⟨_, hd, hy⟩)))) h2⟩
end
end Go.Im

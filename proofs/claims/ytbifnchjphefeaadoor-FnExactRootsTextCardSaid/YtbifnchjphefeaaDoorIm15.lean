import Derived.Test.YtbifnchjphefeaaDoorIm14
set_option linter.unusedVariables false
namespace Go.Im
open Go

variable {Γ : Ctx} {ops : Array Oper} {o : Oper}

theorem append_core {β : Nat → Loc} {bs b1 b2 bx bk blk : List Nat} {σ : St} {a : Act} {w w1 : World} {dst : Option Nat} {c : Cert} {t z n m : Nat} {xs ys : List (List D)} {wx wy : List Value} {r : Value}
    (h0 : ∀ t, t ∈ menT σ.tm ∨ t ∈ menH σ.hp → t ∈ σ.us) (h : RelB Γ β bs σ a w) (hd : ∀ t, dst = some t → t < Γ.nt) (hw : c.hw = [(t, .row z (xs ++ ys))]) (ht : t ∉ σ.us) (hm : Γ.m ≤ t)
    (hp : bs.Perm ((blk ++ (b1 ++ b2) ++ bx) ++ bk)) (hk : HRep β (NS Γ w bs) w (σ.hp.filter (fun x => !c.hx.contains x.1)) bk) (hx : RepEs β (NS Γ w bs) w xs wx b1) (hy : RepEs β (NS Γ w bs) w ys wy b2)
    (hzx : ∀ x ∈ xs, x.length = z) (hzy : ∀ x ∈ ys, x.length = z) (hlx : xs.length = n) (hly : ys.length = m) (ha : Appd w w1 z n m wx wy blk r) (ho : c.out = some (.rf t 0 (n + m) none)) : Rel Γ (σ.upd dst c) (a.put dst r) w1 := by
  have hlt : ∀ b ∈ bs, b < w.heap.size := fun b hb => (h.own b hb).1
  have hnd := hp.nodup_iff.1 h.nodup
  have hndr := (List.nodup_append.1 (List.nodup_append.1 hnd).1).1
  have hzz : ∀ x ∈ xs ++ ys, x.length = z := fun x hx' => by
    rcases List.mem_append.1 hx' with h' | h'
    · exact hzx x h'
    · exact hzy x h'
  have hin : ∀ b, b ∈ b1 ++ b2 → b ∈ bs := fun b hb => hp.mem_iff.2 (by simp only [List.mem_append] at hb ⊢; rcases hb with h' | h' <;> simp [h'])
  have hblk : ∀ b, b ∈ blk → b ∈ bs := fun b hb => hp.mem_iff.2 (by simp [hb])
  have hbkin : ∀ b, b ∈ bk → b ∈ bs := fun b hb => hp.mem_iff.2 (by simp [hb])
  have hsep : ∀ b ∈ b1 ++ b2, b ∉ blk := fun b hb hb' => (List.nodup_append.1 hndr).2.2 b hb' b hb rfl
  obtain ⟨hq, ha⟩ := ha
  rcases ha with ⟨hnm, rfl, rfl, rfl⟩ | ⟨b, off, cp, rfl, hcap, hO, hbs, hcase⟩
  · have hxs : xs = [] := List.length_eq_zero_iff.1 (by omega)
    have hys : ys = [] := List.length_eq_zero_iff.1 (by omega)
    subst hxs; subst hys
    simp only [RepEs] at hx hy
    obtain ⟨_, rfl⟩ := hx
    obtain ⟨_, rfl⟩ := hy
    refine Rel.step (β1 := updB β t ⟨true, 0, 0, z, 0⟩) (bk := bk) (br := bx) (bn := []) h0 h hd (by simp [hw]) (by simpa [hw] using .inr ht) (by simpa using hp) hk (Nat.le_refl _) (fun _ _ _ => rfl) ?_ ?_ (by simp) (by simp) ?_ ?_ ⟨rfl, rfl⟩
    · intro k hk'; exact updB_ne (fun e => ht (e ▸ hk'))
    · intro k hk'; exact updB_ne (by omega)
    · rw [hw]
      refine ⟨[], [], by simp [updB_self, Loc.own], ?_, rfl⟩
      rw [updB_self]
      exact ⟨rfl, by simp, .inl ⟨rfl, rfl, rfl⟩⟩
    · intro d hd'
      rw [ho] at hd'
      cases hd'
      simp only [Rep, updB_self]
      exact ⟨trivial, trivial, .inl ⟨trivial, trivial, hnm, trivial⟩⟩
  · have hcommon : (∀ b', b' < w.heap.size → b' ∉ blk → w1.heap[b']? = w.heap[b']?) ∧ w.heap.size ≤ w1.heap.size ∧ (b ∈ blk ∨ w.heap.size ≤ b) ∧ b ∉ b1 ++ b2 := by
      rcases hcase with ⟨rfl, q1, q2⟩ | ⟨rfl, q1, q2⟩
      · exact ⟨fun b' _ hb => q1 b' (by simpa using hb), by omega, .inl (by simp), fun hb => hsep b hb (by simp)⟩
      · exact ⟨fun b' hb _ => q2 b' hb, q1, .inr (Nat.le_refl _), fun hb => by have := hlt _ (hin _ hb); omega⟩
    obtain ⟨hs1, hs2, hs3, hs4⟩ := hcommon
    have hN : ∀ b', NS Γ w bs b' → NS Γ w1 (b :: (b1 ++ b2) ++ bk) b' ∧ w1.heap[b']? = w.heap[b']? := by
      rintro b' ⟨q1, q2, q3⟩
      refine ⟨⟨q1, by omega, ?_⟩, hs1 b' q2 (fun hb => q3 (hblk b' hb))⟩
      intro hb
      simp only [List.cons_append, List.mem_cons, List.mem_append] at hb
      rcases hb with rfl | (hb | hb) | hb
      · rcases hs3 with h' | h'
        · exact q3 (hblk _ h')
        · omega
      · exact q3 (hin b' (by simp [hb]))
      · exact q3 (hin b' (by simp [hb]))
      · exact q3 (hbkin b' hb)
    refine Rel.step (β1 := updB β t ⟨false, b, off, z, cp * z⟩) (bk := bk) (br := blk ++ (b1 ++ b2) ++ bx) (bn := b :: (b1 ++ b2)) h0 h hd (by simp [hw]) (by simpa [hw] using .inr ht) hp hk hs2 ?_ ?_ ?_ ?_ ?_ ?_ ?_ hq
    · intro b' hb hb'; exact hs1 b' hb (fun h' => hb' (by simp [h']))
    · intro k hk'; exact updB_ne (fun e => ht (e ▸ hk'))
    · intro k hk'; exact updB_ne (by omega)
    · exact List.nodup_cons.2 ⟨hs4, (List.nodup_append.1 hndr).2.1⟩
    · intro b' hb
      rcases List.mem_cons.1 hb with rfl | hb
      · refine ⟨?_, hbs⟩
        rcases hs3 with h' | h'
        · exact .inl (by simp [h'])
        · exact .inr h'
      · refine ⟨.inl ?_, by have := hlt b' (hin b' hb); omega⟩
        simp only [List.mem_append] at hb ⊢
        rcases hb with h' | h' <;> simp [h']
    · rw [hw]
      refine ⟨b1 ++ b2, [], by simp [updB_self, Loc.own], ?_, rfl⟩
      rw [updB_self]
      refine ⟨rfl, hzz, .inr ⟨rfl, wx ++ wy, hO, ?_⟩⟩
      have q1 := RepEs.frame (β' := updB β t ⟨false, b, off, z, cp * z⟩) hN xs wx b1 (fun b' hb => hs1 b' (hlt b' (hin b' (by simp [hb]))) (hsep b' (by simp [hb]))) hx
      have q2 := RepEs.frame (β' := updB β t ⟨false, b, off, z, cp * z⟩) hN ys wy b2 (fun b' hb => hs1 b' (hlt b' (hin b' (by simp [hb]))) (hsep b' (by simp [hb]))) hy
      exact q1.append q2
    · intro d hd'
      rw [ho] at hd'
      cases hd'
      simp only [Rep, updB_self]
      exact ⟨trivial, trivial, .inr ⟨trivial, cp, by simp, hcap, by simp, by simp⟩⟩

/-- An owned slice that comes as it is. -/
theorem rf_dst {β : Nat → Loc} {N : Nat → Prop} {w : World} {t n z : Nat} {cap : Option Nat} {v : Value} {xs : List (List D)} {b1 : List Nat} (hr : Rep β N w true (.rf t 0 n cap) v []) (he : EntRep β N w (β t) b1 (.row z xs))
    (hl : xs.length = n) : ∃ wx, Dst w z n v wx (β t).own ∧ RepEs β N w xs wx b1 ∧ (∀ x ∈ xs, x.length = z) := by
  obtain ⟨hLz, hzz, hrow⟩ := he
  simp only [Rep] at hr
  obtain ⟨_, _, ⟨hnil, _, hn0, rfl⟩ | ⟨hnil, cp, rfl, hcap, hroom, _⟩⟩ := hr
  · rcases hrow with ⟨_, rfl, rfl⟩ | ⟨hnil', _⟩
    · exact ⟨[], .inl ⟨rfl, hn0, rfl, by simp [Loc.own, hnil]⟩, by simp [RepEs], hzz⟩
    · rw [hnil] at hnil'; cases hnil'
  · rcases hrow with ⟨hnil', _⟩ | ⟨_, wx, hO, hE⟩
    · rw [hnil] at hnil'; cases hnil'
    · refine ⟨wx, .inr ⟨(β t).b, (β t).o, cp, by simp, by simp [Loc.own, hnil], hcap, ?_, ?_⟩, hE, hzz⟩
      · rw [← hLz]; exact hO.mono (by simpa using hroom)
      · rw [hE.length hzz, hl]

theorem src_slice {P : Program} {w : World} {z m : Nat} {U e' : TypeId} {v : Value} {wy : List Value} (hU : P.underlying U = some (.slice e')) (hone : ∀ x ∈ wy, Value.oneCell x = true)
    (h : (v = .slice none 0 0 ∧ m = 0 ∧ wy = []) ∨ ∃ b off c, v = .slice (some ⟨b, off, none⟩) m c ∧ Has w b off wy ∧ wy.length = m * z) : Go.Src P z U v m wy w := by
  rcases h with ⟨rfl, rfl, rfl⟩ | ⟨b, off, c, rfl, hH, hl⟩
  · exact Src.ofNil w hU 0
  · refine Src.ofSlice w hU _ m c wy hl ?_ (fun u hu => by rw [oneCell_eq]; exact hone u hu)
    intro j u hj
    rw [add_none]
    obtain ⟨hlt, rfl⟩ := List.getElem?_eq_some_iff.1 hj
    exact hH.cell j hlt

theorem repEs_one {β : Nat → Loc} {N : Nat → Prop} {w : World} : ∀ {xs : List (List D)} {ws : List Value} {bs : List Nat}, (∀ e ∈ xs, e.all okCell = true) → RepEs β N w xs ws bs → ∀ x ∈ ws, Value.oneCell x = true
  | [], ws, bs, _, h => by simp only [RepEs] at h; rw [h.1]; simp
  | e :: es, ws, bs, ho, h => by
    simp only [RepEs] at h
    obtain ⟨w1, w2, b1, b2, rfl, _, h3, h4⟩ := h
    intro x hx
    rcases List.mem_append.1 hx with hx | hx
    · exact repCs_one2 (ho e (by simp)) h3 x hx
    · exact repEs_one (fun e he => ho e (by simp [he])) h4 x hx

theorem filt_one_cons (l : List (Nat × Ent)) (t ts : Nat) : (l.filter (fun x => x.1 != t)).filter (fun x => x.1 != ts) = l.filter (fun x => !([t, ts] : List Nat).contains x.1) := by
  rw [List.filter_filter]
  congr 1; funext x
  by_cases h : x.1 = t <;> by_cases h2 : x.1 = ts <;> simp [h, h2]

/-- append(out, more...), both owned; the second one goes into the first. -/
theorem v_append {c : Cert} {x y : Operand} {T U el e' : TypeId} {t td ts n m z bytes : Nat} {cd cs : Option Nat} {zv : Value} {xs ys : List (List D)} (hg : o.guard = none)
    (hop : o.op = .call { callee := .builtin .append, args := #[x, y], argTypes := #[T, U] }) (hc : c = { tn := c.tn, hn := c.hn, out := some (.rf t 0 (n + m) none), hx := [td, ts], hw := [(t, .row z (xs ++ ys))], fr := [t] })
    (hm : Γ.m ≤ t) (hx : OpF c x (.rf td 0 n cd)) (hy : OpF c y (.rf ts 0 m cs)) (hne : td ≠ ts) (hxr : (td, .row z xs) ∈ c.hn) (hyr : (ts, .row z ys) ∈ c.hn) (hlx : xs.length = n) (hly : ys.length = m)
    (hT : Γ.P.underlying T = some (.slice el)) (hU : Γ.P.underlying U = some (.slice e')) (hinfo : (Γ.P.info? el).map (fun i => (i.zero, i.size, i.bytes)) = some (some zv, z, bytes)) (hzs : zv.cells.size = z)
    (hone : ∀ e ∈ ys, e.all okCell = true) (hbig : (n + m) * bytes ≤ 140737488355328) (h62 : n + m ≤ 4611686018427387904) : Valid Γ ops o c := by
  intro σ a w Q hdst hn ⟨h0, β, bs, hr⟩
  have hwt : Region.wanted o (yielded ops a.tmps) = true := by simp [Region.wanted, hg]
  rw [if_pos hwt]
  have hfr : t ∉ σ.us := hn.2.2 t (by rw [hc]; simp)
  obtain ⟨b1, b2', p1, hE1, hrest⟩ := HRep.take hr.hp hr.keys (hn.2.1 _ hxr)
  obtain ⟨b2, bk, p2, hE2, hrest2⟩ := HRep.take hrest (List.Nodup.sublist (List.Sublist.map _ List.filter_sublist) hr.keys) (List.mem_filter.2 ⟨hn.2.1 _ hyr, by simpa using fun e => hne e.symm⟩)
  obtain ⟨wx, hD, hEx, hzx⟩ := rf_dst (OpF.rep hx hn hr) hE1 hlx
  obtain ⟨wy, hS, hEy, hzy⟩ := rf_dst (OpF.rep hy hn hr) hE2 hly
  have hsrc : Go.Src Γ.P z U (a.eval y) m wy w := src_slice hU (repEs_one hone hEy) (by
    rcases hS with ⟨q1, q2, q3, _⟩ | ⟨b, off, cp, q1, _, _, q2, q3⟩
    · exact .inl ⟨q1, q2, q3⟩
    · exact .inr ⟨b, off, cp, q1, q2.has, q3⟩)
  obtain ⟨r, w1, hrun, hA⟩ := run_append (ty := o.type) hT hinfo hzs hD hsrc hbig h62
  have hex : (execOp a.eval o).run Γ.P w = .ok (.value r) w1 := by
    rw [exec_builtin hop]
    simp only [builtin, List.map_toArray, List.map_cons, List.map_nil]
    exact run_bind_ok hrun
  unfold Oper.wp
  rw [hex, Oper.upon_value]
  refine append_core (b1 := b1) (b2 := b2) (bx := (β ts).own) (bk := bk) (blk := (β td).own) h0 hr hdst (by rw [hc]) hfr hm ?_ ?_ hEx hEy hzx hzy hlx hly hA (by rw [hc])
  · refine p1.trans ?_
    refine (List.Perm.append_left _ (List.Perm.append_left _ p2)).trans ?_
    simp only [List.append_assoc]
    refine List.Perm.append_left _ (List.Perm.append_left _ ?_)
    rw [← List.append_assoc, ← List.append_assoc]
    exact List.Perm.append_right _ List.perm_append_comm
  · rw [hc]
    rw [filt_one_cons] at hrest2
    exact hrest2

end Go.Im

import Derived.Test.YtbifnchjphefeaaDoorIm12
set_option linter.unusedVariables false
namespace Go.Im
open Go

variable {Γ : Ctx} {ops : Array Oper} {o : Oper}

/-- May it lie in a row? -/
def D.nest : D → Bool
  | .sc v => v.oneCell
  | .s o _ _ _ => !o
  | _ => false

/-- Cells laid into a row: what is owned moves. -/
inductive Emb (hn : List (Nat × Ent)) : List D → List D → List Nat → Prop where
  | nil : Emb hn [] [] []
  | keep {d : D} {ds ds' : List D} {ts : List Nat} : d.nest = true → Emb hn ds ds' ts → Emb hn (d :: ds) (d :: ds') ts
  | nilsl {ds ds' : List D} {ts : List Nat} (ow : Bool) (z : Nat) : Emb hn ds ds' ts → Emb hn (.sc (.slice none 0 0) :: ds) (.s ow z 0 [] :: ds') ts
  | move {t n z : Nat} {cap : Option Nat} {xs : List (List D)} {ds ds' : List D} {ts : List Nat} : (t, .row z xs) ∈ hn → xs.length = n → t ∉ ts → Emb hn ds ds' ts →
      Emb hn (.rf t 0 n cap :: ds) (.s true z n xs :: ds') (t :: ts)

theorem Emb.all_keep (hn : List (Nat × Ent)) : ∀ (ds : List D), ds.all D.nest = true → Emb hn ds ds []
  | [], _ => .nil
  | d :: ds, h => by
    simp only [List.all_cons, Bool.and_eq_true] at h
    exact .keep h.1 (Emb.all_keep hn ds h.2)

theorem Rep.nest {β : Nat → Loc} {N : Nat → Prop} {w : World} {d : D} {v : Value} {bs : List Nat} (hd : d.nest = true) (h : Rep β N w true d v bs) : Rep β N w false d v bs := by
  cases d <;> simp_all [D.nest, Rep]

theorem Own.mono {w : World} {b off r r' : Nat} {ws : List Value} (h : Own w b off r ws) (hr : r' ≤ r) : Own w b off r' ws := by
  obtain ⟨arr, e, lo, hi, h1, h2, h3, h4⟩ := h
  exact ⟨arr, e, lo, hi, h1, h2, by omega, h4⟩

theorem filt_cons (l : List (Nat × Ent)) (t : Nat) (ts : List Nat) : (l.filter (fun x => x.1 != t)).filter (fun x => !ts.contains x.1) = l.filter (fun x => !(t :: ts).contains x.1) := by
  rw [List.filter_filter]
  congr 1; funext x
  by_cases h : x.1 = t <;> simp [h]

theorem Emb.rep {β : Nat → Loc} {N : Nat → Prop} {w : World} {hn : List (Nat × Ent)} {ds ds' : List D} {ts : List Nat} (he : Emb hn ds ds' ts) : ∀ {hp : List (Nat × Ent)} {bs : List Nat} {ws : List Value},
    HRep β N w hp bs → (hp.map (·.1)).Nodup → (∀ x ∈ hn, x.1 ∈ ts → x ∈ hp) → RepCs β N w true ds ws [] →
    ∃ b1 bk, bs.Perm (b1 ++ bk) ∧ RepCs β N w false ds' ws b1 ∧ HRep β N w (hp.filter (fun x => !ts.contains x.1)) bk := by
  induction he with
  | nil =>
    intro hp bs ws h _ _ hr
    refine ⟨[], bs, .refl _, ?_, by rw [filt_nil]; exact h⟩
    simp only [RepCs] at hr ⊢
    exact hr
  | keep hd _ ih =>
    intro hp bs ws h hk hh hr
    simp only [RepCs] at hr
    obtain ⟨v, vs, b1, b2, rfl, hb, h3, h4⟩ := hr
    rw [(List.append_eq_nil_iff.1 hb.symm).1] at h3
    rw [(List.append_eq_nil_iff.1 hb.symm).2] at h4
    obtain ⟨c1, ck, q1, q2, q3⟩ := ih h hk hh h4
    refine ⟨c1, ck, q1, ?_, q3⟩
    simp only [RepCs]
    exact ⟨v, vs, [], c1, rfl, rfl, h3.nest hd, q2⟩
  | nilsl ow z _ ih =>
    intro hp bs ws h hk hh hr
    simp only [RepCs] at hr
    obtain ⟨v, vs, b1, b2, rfl, hb, h3, h4⟩ := hr
    rw [(List.append_eq_nil_iff.1 hb.symm).2] at h4
    obtain ⟨c1, ck, q1, q2, q3⟩ := ih h hk hh h4
    refine ⟨c1, ck, q1, ?_, q3⟩
    simp only [RepCs]
    simp only [Rep] at h3
    refine ⟨v, vs, [], c1, rfl, rfl, ?_, q2⟩
    obtain ⟨rfl, _⟩ := h3
    simp only [Rep]
    exact ⟨rfl, by simp, none, 0, rfl, Nat.le_refl _, .inl ⟨trivial, trivial, fun _ => ⟨rfl, rfl⟩⟩⟩
  | @move t n z cap xs ds ds' ts hm hlen hnt _ ih =>
    intro hp bs ws h hk hh hr
    simp only [RepCs] at hr
    obtain ⟨v, vs, b1, b2, rfl, hb, h3, h4⟩ := hr
    rw [(List.append_eq_nil_iff.1 hb.symm).1] at h3
    rw [(List.append_eq_nil_iff.1 hb.symm).2] at h4
    obtain ⟨be, b2', p, hE, hrest⟩ := HRep.take h hk (hh _ hm (by simp))
    obtain ⟨c1, ck, q1, q2, q3⟩ := ih hrest (List.Nodup.sublist (List.Sublist.map _ List.filter_sublist) hk) (fun x hx hxt => by
      refine List.mem_filter.2 ⟨hh x hx (by simp [hxt]), ?_⟩
      simp only [bne_iff_ne, ne_eq]
      intro e
      exact hnt (e ▸ hxt)) h4
    rw [filt_cons] at q3
    obtain ⟨hLz, hzz, hrow⟩ := hE
    simp only [Rep] at h3
    obtain ⟨_, _, h3⟩ := h3
    refine ⟨(β t).own ++ be ++ c1, ck, ?_, ?_, q3⟩
    · refine p.trans ?_
      rw [List.append_assoc, List.append_assoc]
      refine List.Perm.append_left _ (List.Perm.append_left _ q1)
    · simp only [RepCs]
      refine ⟨v, vs, (β t).own ++ be, c1, rfl, by simp, ?_, q2⟩
      simp only [Rep]
      refine ⟨hlen, hzz, ?_⟩
      rcases h3 with ⟨hnil, _, hn0, hv⟩ | ⟨hnil, cp, hv, hcap, hroom, _⟩
      · rcases hrow with ⟨_, hx, hbe⟩ | ⟨hnil', _⟩
        · refine ⟨none, 0, by rw [hn0]; exact hv, by omega, .inl ⟨hn0, by simp [Loc.own, hnil, hbe], fun _ => ⟨rfl, rfl⟩⟩⟩
        · rw [hnil] at hnil'; cases hnil'
      · rcases hrow with ⟨hnil', _⟩ | ⟨_, wx, hO, hEs⟩
        · rw [hnil] at hnil'; cases hnil'
        · refine ⟨some ⟨(β t).b, (β t).o, none⟩, cp, by simpa using hv, hcap, .inr (.inr ⟨trivial, (β t).b, (β t).o, wx, be, rfl, by simp [Loc.own, hnil], ?_, hEs⟩)⟩
          rw [← hLz]
          exact hO.mono (by simpa using hroom)

theorem repEs_flat {β : Nat → Loc} {N : Nat → Prop} {w : World} : ∀ {xs : List (List D)} {ws : List Value} {bs : List Nat}, RepCs β N w false xs.flatten ws bs → RepEs β N w xs ws bs
  | [], ws, bs, h => by simp only [List.flatten_nil, RepCs] at h; simpa [RepEs] using h
  | x :: xs, ws, bs, h => by
    simp only [List.flatten_cons] at h
    obtain ⟨b1, b2, e, h1, h2⟩ := h.split x.length
    rw [List.take_append_of_le_length (Nat.le_refl _), List.take_length] at h1
    rw [List.drop_append_of_le_length (Nat.le_refl _), List.drop_length, List.nil_append] at h2
    simp only [RepEs]
    exact ⟨_, _, b1, b2, (List.take_append_drop _ _).symm, e, h1, repEs_flat h2⟩

theorem RepEs.append {β : Nat → Loc} {N : Nat → Prop} {w : World} : ∀ {x1 x2 : List (List D)} {w1 w2 : List Value} {b1 b2 : List Nat}, RepEs β N w x1 w1 b1 → RepEs β N w x2 w2 b2 → RepEs β N w (x1 ++ x2) (w1 ++ w2) (b1 ++ b2)
  | [], x2, w1, w2, b1, b2, h1, h2 => by
    simp only [RepEs] at h1
    obtain ⟨rfl, rfl⟩ := h1
    simpa using h2
  | x :: x1, x2, w1, w2, b1, b2, h1, h2 => by
    simp only [RepEs] at h1
    obtain ⟨c1, c2, d1, d2, rfl, rfl, h3, h4⟩ := h1
    simp only [List.cons_append, RepEs]
    exact ⟨c1, _, d1, d2 ++ b2, by simp, by simp, h3, h4.append h2⟩

/-- A new row whose cells may take over what others owned. -/
theorem Rel.newRow {β : Nat → Loc} {bs b1 bk : List Nat} {σ : St} {a : Act} {w w1 : World} {c : Cert} {t z n : Nat} {xs : List (List D)} {arr : Array Value} {el : TypeId} {ws : List Value} {cp : Nat}
    (h0 : ∀ t, t ∈ menT σ.tm ∨ t ∈ menH σ.hp → t ∈ σ.us) (h : RelB Γ β bs σ a w) {dst : Option Nat} (hd : ∀ t, dst = some t → t < Γ.nt) (hw : c.hw = [(t, .row z xs)]) (ht : t ∉ σ.us) (hm : Γ.m ≤ t)
    (hp : bs.Perm (b1 ++ bk)) (hk : HRep β (NS Γ w bs) w (σ.hp.filter (fun x => !c.hx.contains x.1)) bk) (hzz : ∀ x ∈ xs, x.length = z) (hlen : xs.length = n)
    (hE : RepEs β (NS Γ w bs) w xs ws b1) (hws : ∃ r, arr.toList = ws ++ r) (hcp : n ≤ cp) (hsz : cp * z ≤ arr.size)
    (hw1 : w1.heap = w.heap.push (.cells arr el (0, 0))) (ho : c.out = some (.rf t 0 n none)) (hq : w1.os = w.os ∧ w1.output = w.output) : Rel Γ (σ.upd dst c) (a.put dst (.slice (some ⟨w.heap.size, 0, none⟩) n cp)) w1 := by
  have hlt : ∀ b ∈ b1, b < w.heap.size := fun b hb => (h.own b (hp.mem_iff.2 (by simp [hb]))).1
  have hnd := hp.nodup_iff.1 h.nodup
  have hN : ∀ b, NS Γ w bs b → NS Γ w1 (w.heap.size :: b1 ++ bk) b ∧ w1.heap[b]? = w.heap[b]? := by
    rintro b ⟨q1, q2, q3⟩
    refine ⟨⟨q1, by rw [hw1]; simp; omega, ?_⟩, push_get hw1 q2⟩
    simp only [List.cons_append, List.mem_cons, not_or]
    exact ⟨by omega, fun hb => q3 (hp.mem_iff.2 hb)⟩
  refine Rel.step (β1 := updB β t ⟨false, w.heap.size, 0, z, arr.size⟩) (bk := bk) (br := b1) (bn := w.heap.size :: b1) h0 h hd (by simp [hw]) (by simpa [hw] using .inr ht) hp hk ?_ ?_ ?_ ?_ ?_ ?_ ?_ ?_ hq
  · rw [hw1]; simp
  · intro b hb _; exact push_get hw1 hb
  · intro k hk'; exact updB_ne (fun e => ht (e ▸ hk'))
  · intro k hk'; exact updB_ne (by omega)
  · exact List.nodup_cons.2 ⟨fun hb => by have := hlt _ hb; omega, (List.nodup_append.1 hnd).1⟩
  · intro b hb
    rcases List.mem_cons.1 hb with rfl | hb
    · exact ⟨.inr (Nat.le_refl _), by rw [hw1]; simp⟩
    · exact ⟨.inl hb, by have := hlt b hb; rw [hw1]; simp; omega⟩
  · rw [hw]
    refine ⟨b1, [], by simp [updB_self, Loc.own], ?_, rfl⟩
    rw [updB_self]
    refine ⟨rfl, hzz, .inr ⟨rfl, ws, ?_, ?_⟩⟩
    · obtain ⟨arr', e', lo, hi, q1, q2, q3, q4⟩ := own_new hw1
      refine ⟨arr', e', lo, hi, q1, q2, q3, ?_⟩
      obtain ⟨r, hr⟩ := hws
      intro k hk'
      rw [q4 k (by rw [hr]; simp; omega)]
      simp only [hr]
      rw [List.getElem_append_left hk']
    · exact RepEs.frame hN xs ws b1 (fun b hb => push_get hw1 (hlt b hb)) hE
  · intro d hd'
    rw [ho] at hd'
    cases hd'
    simp only [Rep, updB_self]
    exact ⟨trivial, trivial, .inr ⟨trivial, cp, by simp, hcp, by simpa using hsz, by simp⟩⟩

theorem v_bslice {c : Cert} {T el : TypeId} {n z t : Nat} {parts : Array (Nat × Operand)} {zv : Value} {zc : Array Value} {dl : List (Nat × D)} {ds : List D} {xs : List (List D)} {ts : List Nat} (hg : o.guard = none)
    (hop : o.op = .buildSlice T n parts) (hc : c = { tn := c.tn, hn := c.hn, out := some (.rf t 0 n none), hx := ts, hw := [(t, .row z xs)], fr := [t] }) (hm : Γ.m ≤ t)
    (hT : pureSem Γ.P (underlying T) = some (.slice el)) (hz : szOf Γ.P el = some z) (hbig : n * z ≤ 1000) (hzv : pureSem Γ.P (zeroValue el) = some zv) (hzc : zc = if n * z = 0 then #[] else zv.cells)
    (h1 : ((Array.range (n * z)).map (zc[· % zc.size]!)).toList.all Value.oneCell = true) (hl : dl.length = parts.size)
    (hds : ∀ (k : Nat) (i : Nat) (d : D), dl[k]? = some (i, d) → ∃ x, parts[k]? = some (i, x) ∧ OpF c x d ∧ (cellsD d).all D.cell = true)
    (hf : fillD (fun i => some (i * z, z)) (((Array.range (n * z)).map (zc[· % zc.size]!)).toList.map D.sc) dl = some ds) (hxs : xs.length = n) (hzz : ∀ x ∈ xs, x.length = z) (he : Emb c.hn ds xs.flatten ts) : Valid Γ ops o c := by
  intro σ a w Q hdst hn ⟨h0, β, bs, hr⟩
  have hwt : Region.wanted o (yielded ops a.tmps) = true := by simp [Region.wanted, hg]
  rw [if_pos hwt]
  have hfr : t ∉ σ.us := hn.2.2 t (by rw [hc]; simp)
  obtain ⟨arr', h2, h3, h4⟩ := fill_rep (β := β) (N := NS Γ w bs) (w := w) (place := fun i => some (i * z, z)) dl (parts.map fun (i, x) => (i, a.eval x)).toList _ ((Array.range (n * z)).map (zc[· % zc.size]!)) ds hf (repCs_sc _)
    (fun x hx => List.all_eq_true.1 h1 x hx) (by simp [hl]) (fun k i d hk => by
      obtain ⟨x, g1, g2, g3⟩ := hds k i d hk
      refine ⟨a.eval x, ?_, g3, OpF.rep g2 hn hr⟩
      rw [Array.getElem?_toList, Array.getElem?_map, g1]
      rfl)
  have hrun : (execOp a.eval o).run Γ.P w = .ok (.value (.slice (some ⟨w.heap.size, 0, none⟩) n n)) { w with heap := w.heap.push (.cells arr' el) } := by
    refine exec_v (s := Instr.buildSlice T n (parts.map fun (i, x) => (i, a.eval x))) (by simp [execOp, hop]) ?_
    unfold Instr.buildSlice
    rw [run_bind_ok (pureSem_run _ _ w hT)]
    simp only
    rw [run_bind_ok (pureSem_run _ _ w hz)]
    rw [if_neg (by omega)]
    by_cases e0 : n * z = 0
    · rw [if_pos e0] at hzc ⊢
      subst hzc
      rw [run_bind_ok (a := (#[] : Array Value)) (w' := w) rfl]
      rw [h2]
      rfl
    · rw [if_neg e0] at hzc ⊢
      subst hzc
      rw [run_bind_ok (pureSem_run _ _ w hzv)]
      rw [run_bind_ok (a := zv.cells) (w' := w) rfl]
      rw [h2]
      rfl
  unfold Oper.wp
  rw [hrun, Oper.upon_value]
  obtain ⟨b1, bk, q1, q2, q3⟩ := Emb.rep he hr.hp hr.keys (fun x hx _ => hn.2.1 x hx) h3
  have q4 := repEs_flat q2
  have hal : arr'.size = n * z := by
    have := q4.length hzz
    rw [hxs] at this
    simpa using this
  exact Rel.newRow (Γ := Γ) (arr := arr') (el := el) (t := t) (z := z) (n := n) (cp := n) (xs := xs) (ws := arr'.toList) h0 hr hdst (by rw [hc]) hfr hm q1 (by rw [hc]; exact q3) hzz hxs q4 ⟨[], by simp⟩ (Nat.le_refl _) (by omega) rfl (by rw [hc]) ⟨rfl, rfl⟩

end Go.Im

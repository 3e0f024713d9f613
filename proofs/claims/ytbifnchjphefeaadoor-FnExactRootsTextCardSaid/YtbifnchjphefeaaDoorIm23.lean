import Derived.Test.YtbifnchjphefeaaDoorIm22
set_option linter.unusedVariables false
namespace Go.Im
open Go

section
variable {Γ : Ctx} {ops : Array Oper} {o : Oper}

/-- append(nil, more...), the second one owned and used up. -/
theorem v_append_n {c : Cert} {x y : Operand} {T U el e' : TypeId} {t ts m z bytes : Nat} {cs : Option Nat} {zv : Value} {ys : List (List D)} (hg : o.guard = none)
    (hop : o.op = .call { callee := .builtin .append, args := #[x, y], argTypes := #[T, U] }) (hc : c = { tn := c.tn, hn := c.hn, out := some (.rf t 0 m none), hx := [ts], hw := [(t, .row z ys)], fr := [t] })
    (hm : Γ.m ≤ t) (hx : OpF c x (.sc (.slice none 0 0))) (hy : OpF c y (.rf ts 0 m cs)) (hyr : (ts, .row z ys) ∈ c.hn) (hly : ys.length = m)
    (hT : Γ.P.underlying T = some (.slice el)) (hU : Γ.P.underlying U = some (.slice e')) (hinfo : (Γ.P.info? el).map (fun i => (i.zero, i.size, i.bytes)) = some (some zv, z, bytes)) (hzs : zv.cells.size = z)
    (hone : ∀ e ∈ ys, e.all okCell = true) (hbig : m * bytes ≤ 140737488355328) (h62 : m ≤ 4611686018427387904) : Valid Γ ops o c := by
  intro σ a w Q hdst hn ⟨h0, β, bs, hr⟩
  have hwt : Region.wanted o (yielded ops a.tmps) = true := by simp [Region.wanted, hg]
  rw [if_pos hwt]
  have hfr : t ∉ σ.us := hn.2.2 t (by rw [hc]; simp)
  obtain ⟨b2, bk, p2, hE2, hrest2⟩ := HRep.take hr.hp hr.keys (hn.2.1 _ hyr)
  have hxv := OpF.rep hx hn hr
  simp only [Rep] at hxv
  obtain ⟨wy, hS, hEy, hzy⟩ := rf_dst (OpF.rep hy hn hr) hE2 hly
  have hsrc : Go.Src Γ.P z U (a.eval y) m wy w := src_slice hU (repEs_one hone hEy) (by
    rcases hS with ⟨q1, q2, q3, _⟩ | ⟨b, off, cp, q1, _, _, q2, q3⟩
    · exact .inl ⟨q1, q2, q3⟩
    · exact .inr ⟨b, off, cp, q1, q2.has, q3⟩)
  obtain ⟨r, w1, hrun, hA⟩ := run_append (ty := o.type) (n := 0) hT hinfo hzs (.inl ⟨hxv.1, rfl, rfl, rfl⟩) hsrc (by simpa using hbig) (by simpa using h62)
  have hex : (execOp a.eval o).run Γ.P w = .ok (.value r) w1 := by
    rw [exec_builtin hop]
    simp only [builtin, List.map_toArray, List.map_cons, List.map_nil]
    exact run_bind_ok hrun
  unfold Oper.wp
  rw [hex, Oper.upon_value]
  refine append_core (b1 := []) (b2 := b2) (bx := (β ts).own) (bk := bk) (blk := []) (xs := []) (n := 0) h0 hr hdst (by rw [hc]; rfl) hfr hm ?_ ?_ (by simp [RepEs]) hEy (by simp) hzy rfl hly hA (by rw [hc]; simp)
  · refine p2.trans ?_
    simp only [List.nil_append]
    rw [← List.append_assoc]
    exact List.Perm.append_right _ List.perm_append_comm
  · rw [hc]
    rw [← filt_one] at hrest2
    exact hrest2

/-- append(out, more...), the second one only read. -/
theorem v_append_s {c : Cert} {x y : Operand} {T U el e' : TypeId} {t td n m z bytes : Nat} {cd : Option Nat} {zv : Value} {xs ys : List (List D)} (hg : o.guard = none)
    (hop : o.op = .call { callee := .builtin .append, args := #[x, y], argTypes := #[T, U] }) (hc : c = { tn := c.tn, hn := c.hn, out := some (.rf t 0 (n + m) none), hx := [td], hw := [(t, .row z (xs ++ ys))], fr := [t] })
    (hm : Γ.m ≤ t) (hx : OpF c x (.rf td 0 n cd)) (hy : OpF c y (.s false z m ys)) (hxr : (td, .row z xs) ∈ c.hn) (hlx : xs.length = n)
    (hT : Γ.P.underlying T = some (.slice el)) (hU : Γ.P.underlying U = some (.slice e')) (hinfo : (Γ.P.info? el).map (fun i => (i.zero, i.size, i.bytes)) = some (some zv, z, bytes)) (hzs : zv.cells.size = z)
    (hone : ∀ e ∈ ys, e.all okCell = true) (hbig : (n + m) * bytes ≤ 140737488355328) (h62 : n + m ≤ 4611686018427387904) : Valid Γ ops o c := by
  intro σ a w Q hdst hn ⟨h0, β, bs, hr⟩
  have hwt : Region.wanted o (yielded ops a.tmps) = true := by simp [Region.wanted, hg]
  rw [if_pos hwt]
  have hfr : t ∉ σ.us := hn.2.2 t (by rw [hc]; simp)
  obtain ⟨b1, bk, p1, hE1, hrest⟩ := HRep.take hr.hp hr.keys (hn.2.1 _ hxr)
  obtain ⟨wx, hD, hEx, hzx⟩ := rf_dst (OpF.rep hx hn hr) hE1 hlx
  have hyv := OpF.rep hy hn hr
  simp only [Rep] at hyv
  obtain ⟨hly, hzy, ad, cap, hv, hcap, hcase⟩ := hyv
  obtain ⟨wy, hEy, hS⟩ : ∃ wy, RepEs β (NS Γ w bs) w ys wy [] ∧ ((a.eval y = .slice none 0 0 ∧ m = 0 ∧ wy = []) ∨ (a.eval y = .slice ad m cap ∧ m = 0 ∧ wy = []) ∨ ∃ b off c, a.eval y = .slice (some ⟨b, off, none⟩) m c ∧ Has w b off wy ∧ wy.length = m * z) := by
    rcases hcase with ⟨q1, q2, _⟩ | ⟨_, b, off, ws, q1, q2, q3, q4, _⟩ | ⟨q, _⟩
    · have : ys = [] := List.length_eq_zero_iff.1 (by omega)
      subst this
      exact ⟨[], by simp [RepEs], .inr (.inl ⟨hv, q1, rfl⟩)⟩
    · refine ⟨ws, q4, .inr (.inr ⟨b, off, cap, by rw [hv, q1], q3, ?_⟩)⟩
      rw [q4.length hzy, hly]
    · cases q
  have hsrc : Go.Src Γ.P z U (a.eval y) m wy w := by
    rcases hS with h | ⟨h1, h2, h3⟩ | h
    · exact src_slice hU (repEs_one hone hEy) (.inl h)
    · rw [h1]
      subst h2; subst h3
      cases ad with
      | none => exact Src.ofNil w hU cap
      | some ad => exact Src.ofSlice w hU ad 0 cap [] (by simp) (by simp) (by simp)
    · exact src_slice hU (repEs_one hone hEy) (.inr h)
  obtain ⟨r, w1, hrun, hA⟩ := run_append (ty := o.type) hT hinfo hzs hD hsrc hbig h62
  have hex : (execOp a.eval o).run Γ.P w = .ok (.value r) w1 := by
    rw [exec_builtin hop]
    simp only [builtin, List.map_toArray, List.map_cons, List.map_nil]
    exact run_bind_ok hrun
  unfold Oper.wp
  rw [hex, Oper.upon_value]
  refine append_core (b1 := b1) (b2 := []) (bx := []) (bk := bk) (blk := (β td).own) h0 hr hdst (by rw [hc]) hfr hm ?_ ?_ hEx hEy hzx hzy hlx hly hA (by rw [hc])
  · simpa using p1
  · rw [hc]
    rw [← filt_one] at hrest
    exact hrest

end
end Go.Im

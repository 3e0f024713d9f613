import Derived.Test.YtbifnchjphefeaaDoorIm43
set_option linter.unusedVariables false
namespace Go.Im
open Go

section
variable {Γ : Ctx} {ops : Array Oper} {o : Oper}
/-- A method with its receiver. -/
theorem v_mkfb {c : Cert} {f : FuncId} {caps : Array Operand} {ds : List D} (hg : o.guard = none) (hop : o.op = .makeFunc (.func f) caps #[]) (hc : c = { tn := c.tn, out := some (.fb f ds) })
    (hl : ds.length = caps.size) (hds : ∀ (k : Nat) (d : D), ds[k]? = some d → ∃ x, caps[k]? = some x ∧ OpF c x d) : Valid Γ ops o c := by
  refine valid_val (d := .fb f ds) (f := fun ρ => Instr.makeFunc (.func f) (caps.map ρ) #[]) hg (fun ρ => by simp [execOp, hop]) (by rw [hc]) fun β bs σ a w hn hr => ?_
  refine ⟨_, rfl, ?_⟩
  simp only [Rep]
  refine ⟨trivial, trivial, (caps.map a.eval).toList, by rw [Array.toArray_toList], ?_⟩
  have key : ∀ (ds : List D) (xs : List Operand), ds.length = xs.length → (∀ (k : Nat) (d : D), ds[k]? = some d → ∃ x, xs[k]? = some x ∧ OpF c x d) → RepCs β (NS Γ w bs) w true ds (xs.map a.eval) [] := by
    intro ds
    induction ds with
    | nil => intro xs h _; rw [List.length_eq_zero_iff.1 h.symm]; simp [RepCs]
    | cons d ds ih =>
      intro xs h hk
      cases xs with
      | nil => simp at h
      | cons x xs =>
        obtain ⟨x', g1, g2⟩ := hk 0 d rfl
        simp at g1
        subst g1
        simp only [List.map_cons, RepCs]
        exact ⟨_, _, [], [], rfl, rfl, OpF.rep g2 hn hr, ih xs (by simpa using h) (fun k d hd => hk (k + 1) d (by simpa using hd))⟩
  have := key ds caps.toList (by simpa using hl) (fun k d hd => by
    obtain ⟨x, g1, g2⟩ := hds k d hd
    exact ⟨x, by rw [Array.getElem?_toList]; exact g1, g2⟩)
  simpa using this


theorem v_callb {c : Cert} {f : FuncId} {x0 : Operand} {args : Array Operand} {tys : Array TypeId} {as ds caps : List D} {ids : List Nat} {bor : Bool} {hin hout : List Ent} {R : Option (D × List Ent)} {res d : D}
    {news : List (Nat × Ent)} (hg : o.guard = none) (hop : o.op = .call { callee := .value x0, args := args, argTypes := tys }) (hx0 : OpF c x0 (.fb f caps)) (hcf : ∀ xs, pureSem Γ.P (callFunc f xs) = some (.enter f xs))
    (hal : as.length = args.size) (hargs : ∀ (k : Nat) (d : D), as[k]? = some d → ∃ x, args[k]? = some x ∧ OpF c x d)
    (ham : AmL c.hn ids bor (caps ++ as) ds) (hids : ids.Nodup) (hinl : hin.length = ids.length) (hhin : ∀ x ∈ ids.zip hin, x ∈ c.hn) (hmen : ∀ e ∈ hin ++ hout, e.men = [])
    (hok : Ok Γ.P f ds hin R) (hR : R = some (res, hout)) (hol : hout.length ≤ hin.length) (hnm : Nm res d news) (hnews : (news.map (·.1)).Nodup)
    (hc : c = { tn := c.tn, hn := c.hn, out := some d, hx := ids, hw := ids.zip hout ++ news, fr := news.map (·.1) }) (hmm : ∀ x ∈ news, Γ.m ≤ x.1)
    (hbor : bor = true → ids = [] ∧ res.flat) : Valid Γ ops o c := by
  intro σ a w Q hdst hn ⟨h0, β, bs, hr⟩
  have hwt : Region.wanted o (yielded ops a.tmps) = true := by simp [Region.wanted, hg]
  rw [if_pos hwt]
  have hvs : RepCs β (NS Γ w bs) w true as (args.toList.map a.eval) [] := repCs_args (c := c) (by simpa using hal) (fun k d hk => by
    obtain ⟨x, h1, h2⟩ := hargs k d hk
    exact ⟨x, by rw [Array.getElem?_toList]; exact h1, OpF.rep h2 hn hr⟩)
  have h1 := OpF.rep hx0 hn hr
  simp only [Rep] at h1
  obtain ⟨_, _, ws, hfv, hcaps⟩ := h1
  have hex : (execOp a.eval o).run Γ.P w = .ok (.enter f (ws.toArray ++ args.map a.eval)) w := by
    have e : execOp a.eval o = (do let d ← Deferred.ofValue (a.eval x0) (args.map a.eval); invoke d.target d.args) := by
      simp only [execOp, hop, resolve]
    rw [e, hfv]
    show (callFunc f ((ws.toArray ++ args.map a.eval) ++ #[])).run Γ.P w = _
    rw [Array.append_empty]
    exact pureSem_run _ _ w (hcf _)
  unfold Oper.wp
  rw [hex, Oper.upon_enter]
  have := call_core (f := f) (dst := o.dst) h0 hr hdst hn (hcaps.append hvs) ham hids hinl hhin hmen hok hR hol hnm hnews hc hmm hbor
  rw [show (ws ++ args.toList.map a.eval).toArray = ws.toArray ++ args.map a.eval by rw [← List.append_toArray, ← List.map_toArray, Array.toArray_toList]] at this
  refine this.mono fun e w' he => ?_
  obtain ⟨v, rfl, hrel⟩ := he
  exact hrel


theorem x_mkb (f : FuncId) (xs : List Operand) (ds : List D) (hC : (ds.length, xs.all notG, List.zipWith opdD xs ds) = (xs.length, true, ds) := by kernel_rfl) :
    OpV Γ (.makeFunc (.func f) xs.toArray #[]) { tn := tnL xs ds, out := some (.fb f ds) } := by
  simp only [Prod.mk.injEq] at hC
  intro ops o hop hg
  exact v_mkfb hg hop rfl (by simpa using hC.1) (fun k d hk => by
    obtain ⟨x, q1, q2⟩ := tnL_f (c := { tn := tnL xs ds, out := some (.fb f ds) }) hC.1 hC.2.1 hC.2.2 (fun y hy => hy) k d hk
    exact ⟨x, by simpa using q1, q2⟩)

theorem x_c0b {f : FuncId} {as caps : List D} {R : Type} {e : Option R} {g : R → D × List Ent} {r : R} (t0 : Nat) (xs : List Operand) (tys : List Nat) (hok : Ok Γ.P f (caps ++ as) [] (e.map g)) (h : e = some r) (hcf : ∀ vs, pureSem Γ.P (callFunc f vs) = some (.enter f vs) := by intro _; kernel_rfl)
    (hC : (as.length, xs.all notG, List.zipWith opdD xs as, D.men.menL (caps ++ as), (g r).1.nm, (g r).2) = (xs.length, true, as, [], true, []) := by kernel_rfl) :
    OpV Γ (.call { callee := .value (.tmp t0), args := xs.toArray, argTypes := tys.toArray }) { tn := (t0, .fb f caps) :: tnL xs as, out := some (g r).1 } := by
  simp only [Prod.mk.injEq] at hC
  obtain ⟨h1, h2, h3, h4, h5, h7⟩ := hC
  intro ops o hop hg
  exact v_callb («as» := as) (caps := caps) (bor := false) (ids := []) (hin := []) (hout := []) (news := []) hg hop (show (t0, D.fb f caps) ∈ (t0, D.fb f caps) :: tnL xs as from .head _) hcf (by simpa using h1) (fun k d hk => by
    obtain ⟨x, q1, q2⟩ := tnL_f (c := { tn := (t0, .fb f caps) :: tnL xs as, out := some (g r).1 }) h1 h2 h3 (fun y hy => List.mem_cons_of_mem _ hy) k d hk
    exact ⟨x, by simpa using q1, q2⟩) (AmL.all_same h4) (by simp) rfl (by simp) (by simp) hok (by rw [h, Option.map_some, ← h7]) (by simp) (nm_spec h5) (by simp) rfl (by simp) (by simp)

theorem x_c1b {f : FuncId} {ds : List D} {R : Type} {e : Option R} {g : R → D × List Ent} {r : R} {d : D} {hin : List Ent} {news : List (Nat × Ent)} (t0 : Nat) (xs : List Operand) (tys : List Nat) (bor : Bool) (hn : List (Nat × Ent)) (ids : List Nat) (as : List D) (caps : List D) (ham : AmL hn ids bor (caps ++ as) ds)
    (hok : Ok Γ.P f ds hin (e.map g)) (h : e = some r) (hnm : Nm (g r).1 d news) (hbor : bor = true → ids = [] ∧ (g r).1.flat := by simp)
    (hcf : ∀ vs, pureSem Γ.P (callFunc f vs) = some (.enter f vs) := by intro _; kernel_rfl)
    (hC : (as.length, xs.all notG, List.zipWith opdD xs as, nodupK ids, hin.length, Nat.ble (g r).2.length hin.length, (ids.zip hin).map (fun x => lk hn x.1), (hin ++ (g r).2).flatMap Ent.men, nodupK (news.map (·.1)), news.all (fun x => Nat.ble Γ.m x.1)) =
      (xs.length, true, as, true, ids.length, true, (ids.zip hin).map (fun x => some x.2), [], true, true) := by kernel_rfl) :
    OpV Γ (.call { callee := .value (.tmp t0), args := xs.toArray, argTypes := tys.toArray }) { tn := (t0, .fb f caps) :: tnL xs as, hn := hn, out := some d, hx := ids, hw := ids.zip (g r).2 ++ news, fr := news.map (·.1) } := by
  simp only [Prod.mk.injEq] at hC
  obtain ⟨h1, h2, h3, h4, h5, h6, h7, h8, h9, h10⟩ := hC
  intro ops o hop hg
  exact v_callb («as» := as) (caps := caps) (bor := bor) (ids := ids) (hin := hin) (hout := (g r).2) (news := news) hg hop (show (t0, D.fb f caps) ∈ (t0, D.fb f caps) :: tnL xs as from .head _) hcf (by simpa using h1) (fun k d' hk => by
    obtain ⟨x, q1, q2⟩ := tnL_f (c := { tn := (t0, .fb f caps) :: tnL xs as, hn := hn, out := some d, hx := ids, hw := ids.zip (g r).2 ++ news, fr := news.map (·.1) }) h1 h2 h3 (fun y hy => List.mem_cons_of_mem _ hy) k d' hk
    exact ⟨x, by simpa using q1, q2⟩) ham (nodupK_spec h4) h5 (facts_of h7) (menAll h8) hok (by rw [h, Option.map_some]) (Nat.le_of_ble_eq_true h6) hnm (nodupK_spec h9) rfl (le_all h10) hbor


theorem am_bs {hn : List (Nat × Ent)} {ids : List Nat} {t z n : Nat} {l : Int} {α : Type} {enc enc' : α → List D} {xs ys : List α} (hm : (t, rE z enc xs) ∈ hn) (hr : ∀ a, D.ro.roC (enc a) = enc' a) (h : subv xs l n = some ys) (ht : ids.contains t = false) : Am hn ids true (.sub t l.toNat n) (.s false z ys.length (ys.map enc')) := by
  unfold subv at h
  split at h
  · rename_i q
    cases h
    have hl : ((xs.drop l.toNat).take n).length = n := by simp; omega
    rw [hl]
    refine .bors (xs := xs.map enc) hm (by simpa using ht) (by simp; omega) ?_
    rw [roE_map hr, List.map_take, List.map_drop]
  · cases h
end
end Go.Im

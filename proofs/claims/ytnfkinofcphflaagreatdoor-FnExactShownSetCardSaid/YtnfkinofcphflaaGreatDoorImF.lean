import Derived.Test.YtnfkinofcphflaaGreatDoorImE
import Derived.Below
import Derived.Lib.Split
import Derived.Lib.Join
import Derived.Lib.Repeat
import Derived.Handed
import Derived.Shelf.Vars
import Derived.Lib.SplitLaws
set_option linter.unusedVariables false
namespace Go.Im
open Go

/-! ### Contracts of texts, as the shelf says them -/
/-- Numbers and texts in, a number or a text out; old memory is as it was. -/
theorem Ok_below {P : Program} {f : FuncId} {vs : List Value} {v : Value} (h : ∀ w, Calls P f vs.toArray w fun e w' => e = .returned v ∧ RowKit.Below w.heap.size w w') : Ok P f (vs.map D.sc) [] (some (.sc v, [])) := by
  refine Ok_scg fun w _ => (h w).mono ?_
  rintro e w' ⟨rfl, hb⟩
  exact ⟨rfl, hb.os, hb.output, hb.size, hb.block⟩

/-- strings.Split. -/
theorem Ok_split {P : Program} {f : FuncId} {s sep : ByteArray} {xs : List ByteArray} {t : TypeId} (h : ∀ w, (∀ q ∈ gtab P, Tab w q.1 q.2) → Calls P f #[.string s, .string sep] w fun e w' => e = .returned (.slice (some ⟨w.heap.size, 0, none⟩) xs.length xs.length) ∧ w' = w.alloc (.cells (xs.map Value.string).toArray t)) :
    Ok P f [sv s, sv sep] [] (some (so 1 eStr xs, [])) := by
  intro o ho w N β us bs ha hh hnd hlt hN hG
  cases ho
  obtain ⟨rfl, _⟩ := repCs_sc0 (vs := [.string s, .string sep]) ha
  refine (h w (fun q hq => (hG q hq).2)).mono ?_
  rintro e w' ⟨rfl, rfl⟩
  have hsz : (w.alloc (.cells (xs.map Value.string).toArray t)).heap.size = w.heap.size + 1 := Array.size_push _
  have hnew : (w.alloc (.cells (xs.map Value.string).toArray t)).heap[w.heap.size]? = some (.cells (xs.map Value.string).toArray t) := by
    show (w.heap.push _)[w.heap.size]? = _
    rw [Array.getElem?_push, if_pos rfl]
  refine ⟨_, [w.heap.size], [], rfl, ⟨rfl, rfl⟩, by rw [hsz]; exact Nat.le_succ _, fun b hb _ => ?_, by simp, ?_, ?_, rfl⟩
  · exact RowKit.Below.heap_alloc w _ b hb
  · intro b hb
    simp only [List.append_nil, List.mem_singleton] at hb
    subst hb
    exact ⟨by rw [hsz]; exact Nat.lt_succ_self _, .inr (Nat.le_refl _)⟩
  · unfold so
    simp only [Rep]
    refine ⟨by simp, by simp [eStr], _, _, rfl, Nat.le_refl _, .inr (.inr ⟨trivial, w.heap.size, 0, xs.map Value.string, [], rfl, rfl, ?_, ?_⟩)⟩
    · refine ⟨_, t, 0, 0, hnew, fun k _ => by omega, by simp, fun k hk => by simp⟩
    · exact repEs_scs' (enc := Value.string) xs

theorem maxLen_of {P : Program} {w : World} {g : Nat} (hG : ∀ q ∈ gtab P, Tab w q.1 q.2) (hl : lk (gtab P) g = some (fun ws => ∃ m, ws = [.int .i64 m])) : ∃ m, w.cell? ⟨g, 0, none⟩ = some (.int .i64 m) := by
  obtain ⟨ws, e, fz, h, m, rfl⟩ := hG _ (lk_mem hl)
  exact ⟨m, by rw [cell_of h]; rfl⟩
end Go.Im

set_option linter.unusedVariables false
namespace Go.Im
open Go Go.Proofs

/-- A variable that holds a number, by the world's shape. -/
theorem tab_of_shaped {P : Program} {w : World} {g : Nat} {t : TypeId} {zero : Array Value} (h : w.ShapedOpen P) (hg : g < P.globals.size)
    (h0 : ((begin P (fun _ _ => 0) default).world.heap[g]?).bind Obj.row? = some (zero, t)) (hz : zero.size = 1)
    (hb : P.buildable t = true) (hc : P.cellTypes P.depth t = some [t]) (hu : P.underlying t = some (.int .i64)) : g < w.heap.size ∧ Tab w g (fun ws => ∃ m, ws = [.int .i64 m]) := by
  obtain ⟨m, hm⟩ := cell_of_shapedOpen_int h hg h0 hz hb hc hu
  obtain ⟨cs, hh, hs, _⟩ := h.1 g zero t hg h0
  rw [cell_of hh] at hm
  refine ⟨(Array.getElem?_eq_some_iff.1 hh).1, cs.toList, t, _, by simpa using hh, m, ?_⟩
  obtain ⟨l⟩ := cs
  match l, hs, hm with
  | [], hs, _ => simp at hs; omega
  | [v], _, hm => simp at hm; rw [hm]
  | _ :: _ :: _, hs, _ => simp at hs; omega

section
variable {H : Type} {enc : TypeId × Value → H}
/-- A row with a premise on the world, where the world's shape is known too. -/
theorem returnsInHanded_shaped {a : Assume} {C : Checked} {os : Os} {f : FuncId} {fn : Func} {s : ChangeSpec} {conds : List PathCond} {apart fresh handsOn again : Bool} {X : World → Array Value → Prop}
    (hX : ∀ (w w' : World) (args : Array Value), w.heap = w'.heap → X w args → X w' args) (own : ownKnob C.prog.godebug = none) (started : os.Started) (noInit : C.prog.inits.idxOf? f = none) (hfn : C.prog.funcs[f]? = some fn)
    (witness : ∃ (w : World) (tape : Tape) (i : Input), w.os = os ∧ (w.forCall tape i).Shaped C.prog ∧ i.vars = [] ∧ Input.okWide C.prog (w.forCall tape i) .any w.heap.size f i ∧
      ((s.pre enc C.prog fn conds apart (w.forCall tape i).memory i.args ∧ X (w.forCall tape i).memory i.args) ∧ sizedMet enc C.prog fn (OpenSpec.ofChange s) apart (w.forCall tape i).memory i.args) ∧ a.holds C.prog (lone (Frame.enter C.prog f i.args .normal) [] (w.forCall tape i)))
    (contract : ∀ (W : World) (base : Nat) (args : Array Value) (ds gs : List (DataW H)) (before : List MemPlace), W.ShapedOpen C.prog →
      (∀ (j : Nat) t v, fn.params[j]? = some t → args[j]? = some v → Value.okWide C.prog W .any base t v) → DataW.Whole enc C.prog fn.params.toList s.vars apart W args.toList ds gs before →
      conds.all (PathCond.test C.prog ⟨fn.params.toList, ds, s.plain.varTypes C.prog, gs⟩) = true → (DataW.weightsEach C.prog (fn.params.toList ++ s.plain.varTypes C.prog) (ds ++ gs)).all (· ≤ reachBytes) = true → X W args →
      a.holds C.prog (lone (Frame.enter C.prog f args .normal) [] W) → Calls C.prog f args W fun e W' => ∃ v, e = .returned v ∧ s.post enc C.prog fn apart fresh handsOn again W args v W') :
    ReturnsInHanded a C os f .any (fun w args => (s.pre enc C.prog fn conds apart w args ∧ X w args) ∧ sizedMet enc C.prog fn (OpenSpec.ofChange s) apart w args) (s.post enc C.prog fn apart fresh handsOn again) := by
  refine returnsInHanded_of_calls own started noInit witness fun w tape i _ hsh _ hok hpre hholds => ?_
  obtain ⟨_, _, _, fn', hfn', _, _, _, _, hval⟩ := hok
  obtain rfl : fn' = fn := Option.some.inj (hfn'.symm.trans hfn)
  obtain ⟨⟨⟨ds, gs, before, hw, hc⟩, hx⟩, hz⟩ := hpre
  refine (contract (w.forCall tape i) w.heap.size i.args ds gs before hsh hval (DataW.Whole.of_heap (w' := w.forCall tape i) (by rfl) hw) hc (hz.weights hw) (hX _ _ _ (by rfl) hx) hholds).mono fun e W' ⟨v, he, hp⟩ => ?_
  subst he
  exact ChangeSpec.post_blind hp
end
end Go.Im

set_option linter.unusedVariables false
namespace Go.Im
open Go

/-! ### A variable that holds a function and is never written: its box is stable -/
section
variable {Γ : Ctx} {ops : Array Oper} {o : Oper}

end
end Go.Im

set_option linter.unusedVariables false
namespace Go.Im
open Go

/-! ### Arrays: a variable that holds an array is a row -/
def D.isSc : D → Bool
  | .sc _ => true
  | _ => false

section
variable {β : Nat → Loc} {N : Nat → Prop} {w : World}
theorem repCs_down : ∀ {cs : List D} {ws : List Value} {bs : List Nat}, cs.all D.isSc = true → RepCs β N w true cs ws bs → RepCs β N w false cs ws bs ∧ bs = []
  | [], ws, bs, _, h => by simp only [RepCs] at h ⊢; exact ⟨h, h.2⟩
  | d :: cs, ws, bs, hc, h => by
    simp only [List.all_cons, Bool.and_eq_true] at hc
    simp only [RepCs] at h ⊢
    obtain ⟨v, vs, b1, b2, rfl, rfl, h3, h4⟩ := h
    obtain ⟨h5, rfl⟩ := repCs_down hc.2 h4
    cases d with
    | sc u =>
      simp only [Rep] at h3 ⊢
      obtain ⟨rfl, rfl⟩ := h3
      exact ⟨⟨_, vs, [], [], rfl, rfl, ⟨rfl, rfl⟩, h5⟩, rfl⟩
    | _ => simp [D.isSc] at hc

theorem repEs_of : ∀ {xs : List (List D)} {ws : List Value} {bs : List Nat}, (∀ x ∈ xs, x.all D.isSc = true) → RepCs β N w true xs.flatten ws bs → RepEs β N w xs ws [] ∧ bs = []
  | [], ws, bs, _, h => by simp only [List.flatten_nil, RepCs] at h; simp only [RepEs]; exact ⟨⟨h.1, trivial⟩, h.2⟩
  | x :: xs, ws, bs, hx, h => by
    rw [List.flatten_cons] at h
    obtain ⟨b1, b2, rfl, h1, h2⟩ := RepCs.split x.length h
    rw [List.take_left] at h1
    rw [List.drop_left] at h2
    obtain ⟨h3, rfl⟩ := repCs_down (hx x (by simp)) h1
    obtain ⟨h4, rfl⟩ := repEs_of (fun y hy => hx y (by simp [hy])) h2
    simp only [RepEs]
    exact ⟨⟨ws.take x.length, ws.drop x.length, [], [], (List.take_append_drop _ _).symm, rfl, h3, h4⟩, rfl⟩
end

/-- A temporary may point to the variable as a whole. -/
def tmOk (t : Nat) : D → Bool
  | .pt _ 0 _ => true
  | d => !(d.men.contains t)

section
variable {Γ : Ctx} {fc : Code} {k : List II} {σ : St} {T : Type} {K : T → Option (D × List Ent)}

theorem tmOk_rep {β : Nat → Loc} {N : Nat → Prop} {w : World} {t z : Nat} {d : D} {v : Value} (ho : tmOk t d = true) (h : Rep β N w true d v []) : Rep (updB β t { (β t) with z := z }) N w true d v [] := by
  have key : t ∉ d.men → Rep (updB β t { (β t) with z := z }) N w true d v [] := fun hm =>
    Rep.frame (fun b hb => ⟨hb, rfl⟩) d true v [] (by simp) (fun k hk => updB_ne (fun e => hm (e ▸ hk))) h
  unfold tmOk at ho
  split at ho
  · rename_i t' j
    simp only [Rep] at h ⊢
    by_cases e : t' = t
    · subst e
      rw [updB_self]
      simpa using h
    · rw [updB_ne e]; exact h
  · exact key (by simpa using ho)

theorem J_boxrow {e : Option T} (t : Nat) {z : Nat} {cs : List D} {xs : List (List D)} {tm : List (Nat × D)} {hp : List (Nat × Ent)} (hxs : xs.flatten = cs) (hz : xs.all (fun x => x.length == z && x.all D.isSc) = true) (htm : tm.all (fun x => tmOk t x.2) = true)
    (hhp : (menH hp).contains t = false) (hm : Nat.ble Γ.m t = true) (hj : J Γ fc k (St.mk' tm ((t, .row z xs) :: hp)) e K) : J Γ fc k (St.mk' tm ((t, .box cs) :: hp)) e K := by
  subst hxs
  refine J_weak (fun a w hr => ?_) hj
  obtain ⟨h0, β, bs, h⟩ := hr
  obtain ⟨b1, b2, rfl, ⟨hnil, _, ws, hO, _, hcr⟩, hrest⟩ := h.hp
  have hall : ∀ x ∈ xs, x.length = z ∧ x.all D.isSc = true := fun x hx => by
    have := List.all_eq_true.1 hz x hx
    simpa using this
  obtain ⟨hE, rfl⟩ := repEs_of (fun x hx => (hall x hx).2) hcr
  have htn : t ∉ menH hp := by simpa using hhp
  have hown : (updB β t { (β t) with z := z } t).own = (β t).own := by rw [updB_self]; rfl
  refine ⟨?_, updB β t { (β t) with z := z }, (β t).own ++ ([] ++ b2), { defers := h.defers, size := h.size, keys := h.keys, par := fun k hk => ?_, grow := h.grow, gh := h.gh, quiet := h.quiet, keep := h.keep, hp := ?_, nodup := h.nodup, own := h.own, tm := ?_ }⟩
  · intro q hq
    simp only [St.mk', List.mem_append]
    exact hq
  · have := Nat.le_of_ble_eq_true hm
    rw [updB_ne (by omega)]
    exact h.par k hk
  · refine ⟨[], b2, by rw [hown], ⟨by rw [updB_self], fun x hx => (hall x hx).1, .inr ⟨by rw [updB_self]; exact hnil, ws, ?_, ?_⟩⟩, ?_⟩
    · rw [updB_self]; exact hO
    · exact RepEs.frame (fun b hb => ⟨hb, rfl⟩) xs ws [] (by simp) hE
    · refine HRep.frame (fun b hb => ⟨hb, rfl⟩) _ _ (fun _ _ => rfl) (fun q hq => updB_ne (fun e => htn (e ▸ hq))) hrest
  · intro q d hd
    obtain ⟨v, h1, h2⟩ := h.tm q d hd
    exact ⟨v, h1, tmOk_rep (List.all_eq_true.1 htm _ hd) h2⟩
end

section
variable {Γ : Ctx} {ops : Array Oper} {o : Oper}
theorem v_index_arr {c : Cert} {x y : Operand} {T el : TypeId} {k : IntKind} {z n t j : Nat} {i : Int} {xs : List (List D)} (hg : o.guard = none) (hop : o.op = .indexAddr T x y)
    (hc : c = { tn := c.tn, hn := c.hn, out := some (.pt t j 0) }) (hx : OpF c x (.pt t 0 0)) (hy : OpF c y (.sc (.int k i))) (hT : pureSem Γ.P (underlying T) = some (.array n el)) (hz : szOf Γ.P el = some z)
    (hi : 0 ≤ i) (hj : i < n) (hjj : i.toNat = j) (hh : (t, .row z xs) ∈ c.hn) : Valid Γ ops o c := by
  refine valid_val (d := .pt t j 0) (f := fun ρ => Instr.indexAt T (ρ x) (ρ y)) hg (fun ρ => by simp [execOp, hop]) (by rw [hc]) fun β bs σ a w hn hr => ?_
  have h1 := OpF.rep hx hn hr
  have h2 := OpF.rep hy hn hr
  obtain ⟨_, ⟨hLz, _⟩, _⟩ := HRep.get hr.hp (hn.2.1 _ hh)
  simp only [Rep] at h1 h2
  obtain ⟨_, _, hnil, hv⟩ := h1
  refine ⟨.pointer (some ⟨(β t).b, (β t).o + j * (β t).z + 0, none⟩), ?_, by simp only [Rep]; exact ⟨trivial, trivial, hnil, trivial⟩⟩
  rw [h2.1, hv]
  unfold Instr.indexAt
  rw [run_bind_ok (a := (k, i)) (w' := w) rfl]
  simp only
  rw [run_bind_ok (pureSem_run _ _ w hT)]
  simp only
  rw [run_bind_ok (a := (⟨(β t).b, (β t).o + 0 * (β t).z + 0, none⟩ : Addr)) (w' := w) rfl]
  rw [run_bind_ok (a := (some (⟨(β t).b, (β t).o + 0 * (β t).z + 0, none⟩ : Addr), n, el)) (w' := w) rfl]
  rw [run_bind_ok (pureSem_run _ _ w hT)]
  simp only
  rw [if_pos ⟨hi, hj⟩]
  rw [run_bind_ok (pureSem_run _ _ w hz)]
  rw [add_none, hLz, ← hjj]
  simp

/-- A place of an array. -/
def idxa {α : Type} (xs : List α) (n : Nat) (i : Int) : Option α := if xs.length = n then idx xs i else none
theorem idxa_idx {α : Type} {xs : List α} {n : Nat} {i : Int} {a : α} (h : idxa xs n i = some a) : idx xs i = some a := by
  unfold idxa at h
  split at h
  · exact h
  · cases h

theorem x_ixa {α : Type} {xs : List α} {i : Int} {a : α} {kk : IntKind} (T el z t : Nat) (enc : α → List D) (x y : Operand) (n : Nat) (h : idxa xs n i = some a) (hx : OkO x (.pt t 0 0) := by trivial) (hy : OkO y (.sc (.int kk i)) := by first | trivial | rfl)
    (hT : (pureSem Γ.P (underlying T), szOf Γ.P el) = (some (.array n el), some z) := by kernel_rfl) :
    OpV Γ (.indexAddr T x y) { tn := tnO x (.pt t 0 0) ++ tnO y (.sc (.int kk i)), hn := [(t, rE z enc xs)], out := some (.pt t i.toNat 0) } := by
  simp only [Prod.mk.injEq] at hT
  unfold idxa at h
  split at h
  · rename_i hl
    obtain ⟨h1, h2⟩ := idx_some h
    have := (List.getElem?_eq_some_iff.1 h2).1
    intro ops o hop hg
    exact v_index_arr hg hop rfl (hx.f (fun y hy => List.mem_append_left _ hy)) (hy.f (fun y hy => List.mem_append_right _ hy)) hT.1 hT.2 h1 (by omega) rfl (.head _)
  · cases h

theorem x_build0 (T : TypeId) (vs : List Value) (hz : pureSem Γ.P (Instr.build T #[]) = some (.agg vs.toArray) := by kernel_rfl) (h1 : vs.all Value.oneCell = true := by kernel_rfl) : OpV Γ (.build T #[]) { out := some (.ag (vs.map D.sc)) } := by
  intro ops o hop hg
  refine valid_val (d := .ag (vs.map D.sc)) (f := fun ρ => Instr.build T #[]) hg (fun ρ => by simp [execOp, hop]) rfl fun β bs σ a w hn hr => ?_
  refine ⟨_, pureSem_run _ _ w hz, ?_⟩
  simp only [Rep]
  exact ⟨trivial, vs, rfl, fun x hx => List.all_eq_true.1 h1 x hx, repCs_sc vs⟩
end
end Go.Im

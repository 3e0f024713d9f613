import Derived.Test.YtobkkecdnlecgaaGreatDoorImC
import Derived.Laws.MakeOwn
import Derived.Laws.BytesString
import Derived.ChangeArms
import Derived.Carry
set_option linter.unusedVariables false
namespace Go.Im
open Go

def bs (l : List UInt8) : ByteArray := ⟨l.toArray⟩

/-! ### Loops -/
inductive Lp (S T : Type) where
  | go (s : S)
  | done (t : T)

def Lp.elim {S T : Type} (f : S → Option T) : Lp S T → Option T
  | .go s => f s
  | .done t => some t

def run {S T : Type} (b : S → Option (Lp S T)) : Nat → S → Option T
  | 0, _ => none
  | n + 1, s => (b s).bind (Lp.elim (run b n))

open Classical in
noncomputable def loop {S T : Type} (b : S → Option (Lp S T)) (s : S) : Option T := if h : ∃ n t, run b n s = some t then some (Classical.choose (Classical.choose_spec h)) else none

section
variable {S T : Type} {b : S → Option (Lp S T)}

theorem run_mono : ∀ {n m : Nat} {s : S} {t : T}, run b n s = some t → n ≤ m → run b m s = some t
  | 0, _, _, _, h, _ => by cases h
  | n + 1, 0, _, _, _, h => by omega
  | n + 1, m + 1, s, t, h, hm => by
    simp only [run] at h ⊢
    obtain ⟨x, h1, h2⟩ := Option.bind_eq_some_iff.1 h
    rw [h1]
    cases x with
    | go s' => exact run_mono (n := n) (m := m) h2 (by omega)
    | done t' => exact h2

theorem loop_some {s : S} {t : T} : loop b s = some t ↔ ∃ n, run b n s = some t := by
  unfold loop
  split
  · rename_i h
    have h1 := Classical.choose_spec (Classical.choose_spec h)
    constructor
    · intro e
      cases e
      exact ⟨_, h1⟩
    · rintro ⟨n, hn⟩
      have a := run_mono h1 (Nat.le_max_left _ n)
      have c := run_mono hn (Nat.le_max_right (Classical.choose h) n)
      rw [a] at c
      exact c
  · rename_i h
    constructor
    · intro e; cases e
    · rintro ⟨n, hn⟩; exact absurd ⟨n, t, hn⟩ h

theorem loop_eq (b : S → Option (Lp S T)) (s : S) : loop b s = (b s).bind (Lp.elim (loop b)) := by
  apply Option.ext
  intro t
  rw [loop_some]
  constructor
  · rintro ⟨n, hn⟩
    cases n with
    | zero => cases hn
    | succ n =>
      simp only [run] at hn
      obtain ⟨x, h1, h2⟩ := Option.bind_eq_some_iff.1 hn
      rw [h1]
      cases x with
      | go s' => exact loop_some.2 ⟨n, h2⟩
      | done t' => exact h2
  · intro h
    obtain ⟨x, h1, h2⟩ := Option.bind_eq_some_iff.1 h
    cases x with
    | go s' =>
      obtain ⟨n, hn⟩ := loop_some.1 h2
      exact ⟨n + 1, by simp only [run]; rw [h1]; exact hn⟩
    | done t' => exact ⟨1, by simp only [run]; rw [h1]; exact h2⟩
end

theorem le_all {α : Type} {m : Nat} {l : List (Nat × α)} (h : l.all (fun x => Nat.ble m x.1) = true) : ∀ x ∈ l, m ≤ x.1 := fun x hx => Nat.le_of_ble_eq_true (List.all_eq_true.1 h x hx)

theorem ro_map {α : Type} {enc enc' : α → List D} (h : ∀ a, D.ro.roC (enc a) = enc' a) (xs : List α) : ∀ {off n : Nat}, off = 0 → n = xs.length → xs.map enc' = ((D.ro.roE (xs.map enc)).drop off).take n := by
  rintro _ _ rfl rfl
  have : D.ro.roE (xs.map enc) = xs.map enc' := by
    induction xs with
    | nil => rfl
    | cons x xs ih => simp only [List.map_cons, D.ro.roE, ih, h]
  rw [this, List.drop_zero, List.take_of_length_le (by simp)]

section
variable {Γ : Ctx} {fc : Code} {k : List II} {σ : St} {T U : Type} {K : T → Option (D × List Ent)}

theorem J_q {V : Type} {v : V} {w : T} {K0 : V → Option (D × List Ent)} (h : J Γ fc k σ (some v) K0) (hK : K w = K0 v) : J Γ fc k σ (some w) K := by
  intro r out he hk a wd hrel
  cases he
  exact h v out rfl (hK ▸ hk) a wd hrel

theorem J_ite {b : Bool} {x y : Option T} (h1 : b = true → J Γ fc k σ x K) (h2 : b = false → J Γ fc k σ y K) : J Γ fc k σ (if b then x else y) K := by
  cases b with
  | true => exact h1 rfl
  | false => exact h2 rfl

theorem J_bk {S : Type} {g : S → Option T} {s : S} (h : J Γ fc k σ (g s) K) : J Γ fc k σ (some (Lp.go s)) (fun x => (Lp.elim g x).bind K) :=
  J_next (q := Lp.go) (fun out ho => Option.bind_eq_some_iff.1 ho) h

theorem J_lp {S : Type} {b : S → Option (Lp S T)} {σ : S → St} (h : ∀ g : S → Option T, (∀ s, J Γ fc k (σ s) (g s) K) → ∀ s, J Γ fc k (σ s) (b s) (fun x => (Lp.elim g x).bind K)) : ∀ s, J Γ fc k (σ s) (loop b s) K := by
  have key : ∀ n s, J Γ fc k (σ s) (run b n s) K := by
    intro n
    induction n with
    | zero => exact fun s => J_none
    | succ n ih => exact fun s => J_bindK (h (run b n) ih s)
  intro s r out he hk a w hrel
  obtain ⟨n, hn⟩ := loop_some.1 he
  exact key n s r out hn hk a w hrel

def resL (P : Program) (tm : List (Nat × D)) (hp : List (Nat × Ent)) : List ResultVar → Option (List D)
  | [] => some []
  | .tmp t :: rs => match lk tm t, resL P tm hp rs with
    | some d, some ds => some (d :: ds)
    | _, _ => none
  | .cell t T :: rs => match lk tm t with
    | some (.pt q 0 j) => match lk hp q with
      | some (.box cs) => match ofCells P T (cs.drop j), resL P tm hp rs with
        | some d, some ds => some (d :: ds)
        | _, _ => none
      | _ => none
    | _ => none

theorem resL_spec {P : Program} : ∀ {rs : List ResultVar} {ds : List D}, resL P σ.tm σ.hp rs = some ds → ResFs σ P rs ds
  | [], ds, h => by simp only [resL] at h; cases h; trivial
  | .tmp t :: rs, ds, h => by
    simp only [resL] at h
    split at h
    · rename_i d ds' h1 h2; cases h; exact ⟨lk_mem h1, resL_spec h2⟩
    · cases h
  | .cell t T :: rs, ds, h => by
    simp only [resL] at h
    split at h
    · rename_i q j h1
      split at h
      · rename_i cs h2
        split at h
        · rename_i d ds' h3 h4; cases h; exact ⟨⟨q, cs, j, lk_mem h1, lk_mem h2, h3⟩, resL_spec h4⟩
        · cases h
      · cases h
    · cases h

theorem Ok_of2 {P : Program} {f : FuncId} {fn : Func} {args : List D} {hin : List Ent} {e : Option T} {g : T → D × List Ent} {nt : Nat} (hf : P.funcs[f]? = some fn) (hb : fn.body = some fc) (hnt : fn.ntmps = nt)
    (hna : args.length ≤ nt)
    (h : ∀ (w0 : World) (N0 : Nat → Prop) (O0 : List Nat) (β0 : Nat → Loc), J ⟨P, f, w0, N0, O0, hin.length, β0, nt⟩ fc [.c 1] ⟨args.zipIdx.map (fun x => (x.2, x.1)), enumE hin, D.men.menL args ++ menH (enumE hin)⟩ e (fun r => some (g r))) : Ok P f args hin (e.map g) :=
  Ok_of hf hb hnt hna (fun t ht => List.mem_append.2 ht) (fun out ho => by
    obtain ⟨r, h1, h2⟩ := Option.map_eq_some_iff.1 ho
    exact ⟨r, h1, by rw [h2]⟩) h
end

/-! ### Ghosts -/
section
variable {Γ : Ctx} {fc : Code} {k : List II} {σ : St} {T : Type} {K : T → Option (D × List Ent)}

/-! Other names for what is owned. -/
def D.ren (f : Nat → Nat) : D → D
  | .rf t off n cap => .rf (f t) off n cap
  | .pt t i j => .pt (f t) i j
  | .sub t i j => .sub (f t) i j
  | .fn g caps => .fn g (renL f caps)
  | .fb g caps => .fb g (renL f caps)
  | .pb cs => .pb (renL f cs)
  | .ag cs => .ag (renL f cs)
  | .tu cs => .tu (renL f cs)
  | d => d
  where
  renL (f : Nat → Nat) : List D → List D
    | [] => []
    | d :: ds => d.ren f :: renL f ds

section
variable {β β' : Nat → Loc} {N : Nat → Prop} {w : World} {f : Nat → Nat}
mutual
theorem Rep.ren (hβ : ∀ t, β' (f t) = β t) : ∀ (d : D) (v : Value) (bs : List Nat), Rep β N w true d v bs → Rep β' N w true (d.ren f) v bs
  | .sc u, v, bs, h => by simpa only [Rep, D.ren] using h
  | .s o z n xs, v, bs, h => Rep.frame (β' := β') (fun b hb => ⟨hb, rfl⟩) (.s o z n xs) true v bs (fun _ _ => rfl) (by simp [D.men]) h
  | .rf t off n cap, v, bs, h => by simp only [Rep, D.ren] at h ⊢; rw [hβ]; exact h
  | .pt t i j, v, bs, h => by simp only [Rep, D.ren] at h ⊢; rw [hβ]; exact h
  | .ps cs, v, bs, h => Rep.frame (β' := β') (fun b hb => ⟨hb, rfl⟩) (.ps cs) true v bs (fun _ _ => rfl) (by simp [D.men]) h
  | .fn g caps, v, bs, h => by
    simp only [Rep, D.ren] at h ⊢
    obtain ⟨h1, h2, ws, h3, h4⟩ := h
    exact ⟨h1, h2, ws, h3, RepCs.ren hβ caps ws [] h4⟩
  | .fb g caps, v, bs, h => by
    simp only [Rep, D.ren] at h ⊢
    obtain ⟨h1, h2, ws, h3, h4⟩ := h
    exact ⟨h1, h2, ws, h3, RepCs.ren hβ caps ws [] h4⟩
  | .pb cs, v, bs, h => by
    simp only [Rep, D.ren] at h ⊢
    obtain ⟨h1, h2, b, off, ws, h3, h4, h5, h6, h7⟩ := h
    exact ⟨h1, h2, b, off, ws, h3, h4, h5, h6, RepCs.ren hβ cs ws [] h7⟩
  | .ag cs, v, bs, h => by
    simp only [Rep, D.ren] at h ⊢
    obtain ⟨h1, ws, h2, h3, h4⟩ := h
    exact ⟨h1, ws, h2, h3, RepCs.ren hβ cs ws bs h4⟩
  | .tu cs, v, bs, h => by
    simp only [Rep, D.ren] at h ⊢
    obtain ⟨h1, ws, h2, h4⟩ := h
    exact ⟨h1, ws, h2, RepCs.ren hβ cs ws bs h4⟩
  | .un, v, bs, h => by simpa only [Rep, D.ren] using h
  | .nb _, v, bs, h => by simpa only [Rep, D.ren] using h
  | .sub t off n, v, bs, h => by simp only [Rep, D.ren] at h ⊢; rw [hβ]; exact h
theorem RepCs.ren (hβ : ∀ t, β' (f t) = β t) : ∀ (ds : List D) (ws : List Value) (bs : List Nat), RepCs β N w true ds ws bs → RepCs β' N w true (D.ren.renL f ds) ws bs
  | [], ws, bs, h => by simpa only [RepCs, D.ren.renL] using h
  | d :: ds, ws, bs, h => by
    simp only [RepCs, D.ren.renL] at h ⊢
    obtain ⟨v, vs, b1, b2, h1, h2, h3, h4⟩ := h
    exact ⟨v, vs, b1, b2, h1, h2, Rep.ren hβ d v b1 h3, RepCs.ren hβ ds vs b2 h4⟩
end

def Ent.ren (f : Nat → Nat) : Ent → Ent
  | .box cs => .box (D.ren.renL f cs)
  | .row z xs => .row z xs
  | .lent z xs i j t n => .lent z xs i j (f t) n

theorem EntRep.ren (hβ : ∀ t, β' (f t) = β t) {L : Loc} {bs : List Nat} : ∀ {e : Ent}, EntRep β N w L bs e → EntRep β' N w L bs (e.ren f)
  | .box cs, h => by
    obtain ⟨h0, h1, ws, h2, h3, h4⟩ := h
    have : (D.ren.renL f cs).length = cs.length := by
      clear h1 h2 h3 h4
      induction cs with
      | nil => rfl
      | cons c cs ih => simp [D.ren.renL, ih]
    exact ⟨h0, by rw [this]; exact h1, ws, h2, h3, RepCs.ren hβ cs ws bs h4⟩
  | .row z xs, h => EntRep.frame (e := .row z xs) (fun b hb => ⟨hb, rfl⟩) (fun _ _ => rfl) (fun _ => rfl) (by simp [Ent.men]) h
  | .lent z xs i j t n, h => by
    obtain ⟨h0, h1, h2, ws, h3, h4, v, h5, h6⟩ := h
    refine ⟨h0, h1, h2, ws, h3, RepEs.frame (fun b hb => ⟨hb, rfl⟩) _ _ _ (fun _ _ => rfl) h4, v, h5, ?_⟩
    have := Rep.ren (β' := β') hβ _ _ _ h6
    simpa only [D.ren] using this

theorem HRep.ren (hβ : ∀ t, β' (f t) = β t) : ∀ {hp : List (Nat × Ent)} {bs : List Nat}, HRep β N w hp bs → HRep β' N w (hp.map (fun x => (f x.1, x.2.ren f))) bs
  | [], bs, h => h
  | (t, e) :: hp, bs, h => by
    obtain ⟨b1, b2, h1, h2, h3⟩ := h
    refine ⟨b1, b2, by simp only [hβ]; exact h1, ?_, HRep.ren hβ h3⟩
    simp only [hβ]
    exact EntRep.ren hβ h2
end

def swp (a b x : Nat) : Nat := if x = a then b else if x = b then a else x

theorem swp_swp (a b x : Nat) : swp a b (swp a b x) = x := by
  unfold swp
  split
  · subst_vars
    split
    · rename_i h; exact h
    · simp
  · split
    · subst_vars; simp
    · simp [*]

mutual
theorem D.ren_men (f : Nat → Nat) : ∀ (d : D), (d.ren f).men = d.men.map f
  | .sc _ => rfl
  | .s _ _ _ _ => rfl
  | .rf _ _ _ _ => rfl
  | .pt _ _ _ => rfl
  | .ps _ => rfl
  | .fn _ cs => by simp only [D.ren, D.men]; exact renL_men f cs
  | .fb _ cs => by simp only [D.ren, D.men]; exact renL_men f cs
  | .pb cs => by simp only [D.ren, D.men]; exact renL_men f cs
  | .ag cs => by simp only [D.ren, D.men]; exact renL_men f cs
  | .tu cs => by simp only [D.ren, D.men]; exact renL_men f cs
  | .un => rfl
  | .nb _ => rfl
  | .sub _ _ _ => rfl
theorem renL_men (f : Nat → Nat) : ∀ (ds : List D), D.men.menL (D.ren.renL f ds) = (D.men.menL ds).map f
  | [] => rfl
  | d :: ds => by simp only [D.ren.renL, D.men.menL, List.map_append, D.ren_men f d, renL_men f ds]
end

theorem Ent.ren_men (f : Nat → Nat) (e : Ent) : (e.ren f).men = e.men.map f := by
  cases e with
  | box cs => exact renL_men f cs
  | row z xs => rfl
  | lent z xs i j t n => rfl

theorem J_ren {e : Option T} (a b : Nat) (ha : Γ.m ≤ a) (hb : Γ.m ≤ b)
    (hj : J Γ fc k ⟨σ.tm.map (fun x => (x.1, x.2.ren (swp a b))), σ.hp.map (fun x => (swp a b x.1, x.2.ren (swp a b))), σ.us.map (swp a b)⟩ e K) : J Γ fc k σ e K := by
  refine J_weak (fun ac w hr => ?_) hj
  obtain ⟨h0, β, bs, h⟩ := hr
  have hβ : ∀ t, (fun x => β (swp a b x)) (swp a b t) = β t := fun t => by simp only [swp_swp]
  refine ⟨?_, fun x => β (swp a b x), bs, ?_⟩
  · intro t ht
    have key : ∃ t', t = swp a b t' ∧ (t' ∈ menT σ.tm ∨ t' ∈ menH σ.hp) := by
      rcases ht with ht | ht
      · obtain ⟨x, hx, hx'⟩ := List.mem_flatMap.1 ht
        obtain ⟨y, hy, rfl⟩ := List.mem_map.1 hx
        simp only [D.ren_men] at hx'
        obtain ⟨t', ht', rfl⟩ := List.mem_map.1 hx'
        exact ⟨t', rfl, .inl (List.mem_flatMap.2 ⟨y, hy, ht'⟩)⟩
      · obtain ⟨x, hx, hx'⟩ := List.mem_flatMap.1 ht
        obtain ⟨y, hy, rfl⟩ := List.mem_map.1 hx
        rcases List.mem_cons.1 hx' with rfl | hx'
        · exact ⟨y.1, rfl, .inr (List.mem_flatMap.2 ⟨y, hy, by simp⟩)⟩
        · simp only [Ent.ren_men] at hx'
          obtain ⟨t', ht', rfl⟩ := List.mem_map.1 hx'
          exact ⟨t', rfl, .inr (List.mem_flatMap.2 ⟨y, hy, by simp [ht']⟩)⟩
    obtain ⟨t', rfl, ht'⟩ := key
    exact List.mem_map.2 ⟨t', h0 t' ht', rfl⟩
  · refine { defers := h.defers, size := h.size, keys := ?_, par := fun k' hk' => ?_, grow := h.grow, gh := h.gh, quiet := h.quiet, keep := h.keep, hp := HRep.ren (β' := fun x => β (swp a b x)) hβ h.hp, nodup := h.nodup, own := h.own, tm := ?_ }
    · rw [List.map_map]
      have e1 : (σ.hp.map ((fun x : Nat × Ent => x.1) ∘ fun x : Nat × Ent => (swp a b x.1, x.2.ren (swp a b)))) = (σ.hp.map (·.1)).map (swp a b) := by rw [List.map_map]; rfl
      rw [e1]
      refine List.Pairwise.map _ ?_ h.keys
      intro x y hxy hxy'
      apply hxy
      have := congrArg (swp a b) hxy'
      rwa [swp_swp, swp_swp] at this
    · have e2 : swp a b k' = k' := by unfold swp; rw [if_neg (by omega), if_neg (by omega)]
      simp only [e2]
      exact h.par k' hk'
    · intro t d hd
      obtain ⟨x, hx, hx'⟩ := List.mem_map.1 hd
      cases hx'
      obtain ⟨v, h1, h2⟩ := h.tm x.1 x.2 hx
      exact ⟨v, h1, Rep.ren (β' := fun x => β (swp a b x)) hβ _ _ _ h2⟩
end
end Go.Im

set_option linter.unusedVariables false
namespace Go.Im
open Go

section
variable {Γ : Ctx} {fc : Code} {k : List II} {σ : St} {T : Type} {K : T → Option (D × List Ent)}

theorem RepCs.free {β : Nat → Loc} {N : Nat → Prop} {w : World} : ∀ {ds : List D} {vs : List Value} {bs : List Nat}, ds.all D.free = true → RepCs β N w true ds vs bs → bs = []
  | [], vs, bs, _, h => by simp only [RepCs] at h; exact h.2
  | d :: ds, vs, bs, hf, h => by
    simp only [List.all_cons, Bool.and_eq_true] at hf
    simp only [RepCs] at h
    obtain ⟨v, vs', b1, b2, rfl, rfl, h3, h4⟩ := h
    rw [Rep.free hf.1 h3, RepCs.free hf.2 h4]
    rfl

theorem Emb.free {hn : List (Nat × Ent)} {ds ds' : List D} {ts : List Nat} (h : Emb hn ds ds' ts) : ds.all D.free = true := by
  induction h with
  | nil => rfl
  | keep hd _ ih =>
    rename_i d _ _ _ _
    simp only [List.all_cons, ih, Bool.and_true]
    cases d <;> simp_all [D.nest, D.free]
  | nilsl _ _ _ ih => simpa [D.free] using ih
  | move _ _ _ _ ih => simpa [D.free] using ih

theorem Emb.lengths {hn : List (Nat × Ent)} {ds ds' : List D} {ts : List Nat} (h : Emb hn ds ds' ts) : ds'.length = ds.length := by
  induction h with
  | nil => rfl
  | keep _ _ ih => simp [ih]
  | nilsl _ _ _ ih => simp [ih]
  | move _ _ _ _ ih => simp [ih]

theorem Emb.menL {hn : List (Nat × Ent)} {ds ds' : List D} {ts : List Nat} (h : Emb hn ds ds' ts) : D.men.menL ds' = [] := by
  induction h with
  | nil => rfl
  | keep hd _ ih =>
    rename_i d _ _ _ _
    cases d <;> simp_all [D.nest, D.men, D.men.menL]
  | nilsl _ _ _ ih => simpa [D.men, D.men.menL] using ih
  | move _ _ _ _ ih => simpa [D.men, D.men.menL] using ih

theorem menAll {l : List Ent} (h : l.flatMap Ent.men = []) : ∀ e ∈ l, e.men = [] := fun e he => List.eq_nil_iff_forall_not_mem.2 (fun t ht => by
  have : t ∈ l.flatMap Ent.men := List.mem_flatMap.2 ⟨e, he, ht⟩
  rw [h] at this
  simp at this)

end
end Go.Im

set_option linter.unusedVariables false
namespace Go.Im
open Go

def mk {α : Type} (bytes : Nat) (n : Int) (a : α) : Option (List α) := if 0 ≤ n ∧ bytes * n.toNat ≤ 281474976710656 ∧ n ≤ 9223372036854775807 then some (List.replicate n.toNat a) else none

section
variable {Γ : Ctx} {ops : Array Oper} {o : Oper}

theorem madeCells_split (z : Array Value) (n : Nat) : (madeCells z ((n + 1) * z.size)).toList = z.toList ++ (madeCells z (n * z.size)).toList := by
  by_cases h0 : z.size = 0
  · have : z = #[] := Array.eq_empty_of_size_eq_zero h0
    subst this
    simp [madeCells]
  · apply List.ext_getElem
    · simp [madeCells, Nat.add_mul, Nat.add_comm]
    · intro i h1 h2
      simp only [madeCells, Array.toList_map, Array.toList_range, List.getElem_map, List.getElem_range]
      simp [madeCells] at h1 h2
      have hm : i % z.size < z.size := Nat.mod_lt _ (by omega)
      rw [getElem!_pos z _ hm]
      by_cases hi : i < z.size
      · rw [List.getElem_append_left (by simpa using hi)]
        simp [Nat.mod_eq_of_lt hi]
      · rw [List.getElem_append_right (by simp; omega)]
        simp only [List.getElem_map, List.getElem_range, Array.length_toList]
        have hm2 : (i - z.size) % z.size < z.size := Nat.mod_lt _ (by omega)
        rw [getElem!_pos z _ hm2]
        congr 1
        rw [Nat.mod_eq_sub_mod (by omega)]

theorem repEs_made {β : Nat → Loc} {N : Nat → Prop} {w : World} {zv : Value} {e : List D} (he : Emb [] (zv.cells.toList.map D.sc) e []) : ∀ (n : Nat), RepEs β N w (List.replicate n e) (madeCells zv.cells (n * zv.cells.size)).toList []
  | 0 => by simp [RepEs, madeCells]
  | n + 1 => by
    rw [madeCells_split, List.replicate_succ]
    simp only [RepEs]
    obtain ⟨b1, bk, q1, q2, _⟩ := Emb.rep (β := β) (N := N) (w := w) he (hp := []) (bs := []) rfl (by simp) (by simp) (repCs_sc _)
    have : b1 = [] := (List.append_eq_nil_iff.1 (List.nil_perm.1 q1)).1
    subst this
    exact ⟨_, _, [], [], rfl, rfl, q2, repEs_made he n⟩

theorem v_mkslice {c : Cert} {x y : Operand} {T el : TypeId} {k1 k2 : IntKind} {n z t bytes : Nat} {zv : Value} {e : List D} (hg : o.guard = none) (hop : o.op = .makeSlice T x y)
    (hc : c = { tn := c.tn, hn := c.hn, out := some (.rf t 0 n none), hw := [(t, .row z (List.replicate n e))], fr := [t] }) (hm : Γ.m ≤ t) (hx : OpF c x (.sc (.int k1 n))) (hy : OpF c y (.sc (.int k2 n)))
    (hT : Γ.P.underlying T = some (.slice el)) (hinfo : (Γ.P.info? el).map (fun i => (i.zero, i.size, i.bytes)) = some (some zv, z, bytes)) (hzs : zv.cells.size = z) (he : Emb [] (zv.cells.toList.map D.sc) e []) (hel : e.length = z)
    (hb : bytes * n ≤ 281474976710656) (h63 : n ≤ 9223372036854775807) : Valid Γ ops o c := by
  intro σ a w Q hdst hn ⟨h0, β, bs, hr⟩
  have hwt : Region.wanted o (yielded ops a.tmps) = true := by simp [Region.wanted, hg]
  rw [if_pos hwt]
  have hfr : t ∉ σ.us := hn.2.2 t (by rw [hc]; simp)
  obtain ⟨i, hi, hz0, rfl, rfl⟩ := info_of hinfo
  have h1 := OpF.rep hx hn hr
  have h2 := OpF.rep hy hn hr
  simp only [Rep] at h1 h2
  have hbi : (i.bytes : Int) * (n : Int) ≤ 281474976710656 := by
    have : ((i.bytes * n : Nat) : Int) ≤ 281474976710656 := by omega
    rwa [Int.natCast_mul] at this
  have hrun : (execOp a.eval o).run Γ.P w = .ok (.value (.slice (some ⟨w.heap.size, 0, none⟩) n n)) (w.alloc (.cells (madeCells zv.cells (n * i.size)) el)) := by
    refine exec_v (s := Instr.makeSlice T (a.eval x) (a.eval y)) (by simp [execOp, hop]) ?_
    rw [h1.1, h2.1]
    have := run_make (P := Γ.P) w T el i zv hT hi hz0 k1 k2 n n (by omega) (Int.le_refl _) hbi (by omega)
    simpa using this
  unfold Oper.wp
  rw [hrun, Oper.upon_value]
  exact Rel.newRow (Γ := Γ) (arr := madeCells zv.cells (n * i.size)) (el := el) (t := t) (z := i.size) (n := n) (cp := n) (xs := List.replicate n e) (ws := (madeCells zv.cells (n * i.size)).toList) (b1 := []) (bk := bs) h0 hr hdst (by rw [hc]) hfr hm
    (.refl _) (by rw [hc]; exact (filt_nil σ.hp).symm ▸ hr.hp) (fun x hx => by rw [List.eq_of_mem_replicate hx]; exact hel) (by simp) (by rw [← hzs]; exact repEs_made he n) ⟨[], by simp⟩ (Nat.le_refl _) (by rw [size_madeCells]; exact Nat.le_refl _) rfl (by rw [hc]) ⟨rfl, rfl⟩

theorem RepEs.cons {β : Nat → Loc} {N : Nat → Prop} {w : World} {e : List D} {xs : List (List D)} {w1 w2 : List Value} {b1 b2 : List Nat} (h1 : RepCs β N w false e w1 b1) (h2 : RepEs β N w xs w2 b2) : RepEs β N w (e :: xs) (w1 ++ w2) (b1 ++ b2) := by
  simp only [RepEs]
  exact ⟨w1, w2, b1, b2, rfl, rfl, h1, h2⟩

theorem RepEs.len {β : Nat → Loc} {N : Nat → Prop} {w : World} {z : Nat} {xs : List (List D)} {ws : List Value} {bs : List Nat} (h : RepEs β N w xs ws bs) (hz : ∀ x ∈ xs, x.length = z) : ws.length = xs.length * z := h.length hz

theorem v_store_row {c : Cert} {x y : Operand} {T : TypeId} {xs : List (List D)} {e es' : List D} {d : D} {t i j z : Nat} {ts : List Nat} {hm : List (Nat × Ent)} (hg : o.guard = none) (hop : o.op = .store T x y) (hds : o.dst = none)
    (hc : c = { tn := c.tn, hn := c.hn, hx := t :: ts, hw := [(t, .row z (xs.set i (e.take j ++ es' ++ e.drop (j + (cellsD d).length))))] }) (hx : OpF c x (.pt t i j)) (hy : OpF c y d)
    (hd : (cellsD d).all D.cell = true) (hz : szOf Γ.P T = some (cellsD d).length) (hj : j + (cellsD d).length ≤ z) (hh : (t, .row z xs) ∈ c.hn) (he : xs[i]? = some e) (hem : Emb hm (cellsD d) es' ts) (hmn : ∀ q ∈ hm, q ∈ c.hn ∧ q.1 ≠ t) : Valid Γ ops o c := by
  intro σ a w Q hdst hn ⟨h0, β, bs, hr⟩
  have hwt : Region.wanted o (yielded ops a.tmps) = true := by simp [Region.wanted, hg]
  rw [if_pos hwt]
  have h1 := OpF.rep hx hn hr
  have h2 := OpF.rep hy hn hr
  obtain ⟨h3, h4⟩ := cells_rep hd h2
  simp only [Rep] at h1
  obtain ⟨b1, b2, hp, ⟨hLz, hzz, hrow⟩, hrest⟩ := HRep.take hr.hp hr.keys (hn.2.1 _ hh)
  rcases hrow with ⟨hnil, _⟩ | ⟨hnil, ws, hO, hE⟩
  · rw [h1.2.2.1] at hnil; cases hnil
  have hown : (β t).own = [(β t).b] := by simp [Loc.own, hnil]
  rw [hown] at hp
  have hkf : ((σ.hp.filter (fun x => x.1 != t)).map (·.1)).Nodup := List.Nodup.sublist (List.Sublist.map _ List.filter_sublist) hr.keys
  obtain ⟨c1, ck, k1, k2, k3⟩ := Emb.rep hem hrest hkf (fun q hq _ => List.mem_filter.2 ⟨hn.2.1 _ (hmn q hq).1, by simpa using (hmn q hq).2⟩) h3
  have hvl := h3.length
  have hws := hE.length hzz
  have hlt : i < xs.length := (List.getElem?_eq_some_iff.1 he).1
  have hiz : i * z + z ≤ ws.length := by
    rw [hws, ← Nat.succ_mul]; exact Nat.mul_le_mul_right _ hlt
  have hrun : (execOp a.eval o).run Γ.P w = .ok .skip (putCells w (β t).b ((β t).o + (i * z + j)) (a.eval y).cells.toList) := by
    have e : execOp a.eval o = (do Instr.storeAt T (a.eval x) (a.eval y); pure .skip) := by simp [execOp, hop]
    rw [e]
    refine (run_bind_ok (a := ()) (w' := putCells w (β t).b ((β t).o + (i * z + j)) (a.eval y).cells.toList) ?_).trans rfl
    rw [h1.2.2.2, hLz, Nat.add_assoc]
    obtain ⟨arr, e, lo, hi, g1, g2, g3, g4⟩ := hO
    refine run_storeVar (r := ws.length) (ws := ws) hz (by rw [hvl]) h4 ⟨arr, e, lo, hi, g1, g2, ?_, g4⟩ (by omega)
    rcases Nat.eq_zero_or_pos ws.length with e0 | e0
    · omega
    · have := g4 (ws.length - 1) (by omega)
      have := (Array.getElem?_eq_some_iff.1 this).1
      omega
  unfold Oper.wp
  rw [hrun, Oper.upon_skip]
  have hheap : (∀ b', b' ≠ (β t).b → (putCells w (β t).b ((β t).o + (i * z + j)) (a.eval y).cells.toList).heap[b']? = w.heap[b']?) ∧ (putCells w (β t).b ((β t).o + (i * z + j)) (a.eval y).cells.toList).heap.size = w.heap.size := by
    obtain ⟨arr, e, lo, hi, g1, g2, g3, g4⟩ := hO
    exact (putCells_heap g1).2
  -- the pieces of what is owned
  obtain ⟨q1, q2, q3, eb, hs2, hs1, hs3⟩ := hE.get hzz he
  obtain ⟨p1, p2, e1, hs4, hs5⟩ := hs2.split j
  obtain ⟨p3, p4, e2, hs6, hs7⟩ := hs5.split (cellsD d).length
  have hp2 : bs.Perm (((β t).b :: (b1 ++ c1)) ++ ck) := by
    exact hp.trans (List.Perm.cons _ (by show (b1 ++ b2).Perm ((b1 ++ c1) ++ ck); rw [List.append_assoc]; exact List.Perm.append_left _ k1))
  have hnd := hp2.nodup_iff.1 hr.nodup
  simp only [List.cons_append, List.nodup_cons, List.mem_append, not_or] at hnd
  have hsub : ∀ b, b ∈ q1 ++ ((p1 ++ c1 ++ p4) ++ q3) → b ∈ b1 ++ c1 := fun b hb => by
    rw [eb, e1, e2]
    simp only [List.mem_append] at hb ⊢
    rcases hb with h | ((h | h) | h) | h <;> simp [h]
  have hndb : (b1 ++ c1).Nodup := (List.nodup_append.1 hnd.2).1
  have hnd1 : (q1 ++ ((p1 ++ c1 ++ p4) ++ q3)).Nodup := by
    have hperm : (q1 ++ ((p1 ++ c1 ++ p4) ++ q3)).Perm ((q1 ++ (p1 ++ p4) ++ q3) ++ c1) := by
      simp only [List.append_assoc]
      refine List.Perm.append_left _ (List.Perm.append_left _ ?_)
      rw [← List.append_assoc p4 q3 c1]
      exact List.perm_append_comm
    refine hperm.nodup_iff.2 (List.Nodup.sublist ?_ hndb)
    refine List.Sublist.append_right ?_ _
    rw [eb, e1, e2]
    refine List.Sublist.append_right (List.Sublist.append_left ?_ _) _
    exact List.Sublist.append_left (List.sublist_append_right _ _) _
  have hbin : ∀ b ∈ b1 ++ c1, b ≠ (β t).b := fun b hb e => by
    subst e
    rcases List.mem_append.1 hb with h | h
    · exact hnd.1.1.1 h
    · exact hnd.1.1.2 h
  refine Rel.step (β1 := β) (bk := ck) (br := (β t).b :: (b1 ++ c1)) (bn := (β t).b :: (q1 ++ ((p1 ++ c1 ++ p4) ++ q3))) h0 hr hdst (by rw [hc]; simp) (by rw [hc]; simp) hp2 ?_ ?_ ?_ (fun _ _ => rfl) (fun _ _ => rfl) ?_ ?_ ?_ ?_ (putCells_quiet _ _ _ _)
  · rw [hc, ← filt_cons]; exact k3
  · rw [hheap.2]; exact Nat.le_refl _
  · intro b _ hb
    exact hheap.1 b (fun e => hb (by simp [e]))
  · exact List.nodup_cons.2 ⟨fun h => hbin _ (hsub _ h) rfl, hnd1⟩
  · intro b hb
    rw [hheap.2]
    have : b ∈ (β t).b :: (b1 ++ c1) := by
      rcases List.mem_cons.1 hb with rfl | hb
      · simp
      · exact List.mem_cons_of_mem _ (hsub b hb)
    exact ⟨.inl this, (hr.own b (hp2.mem_iff.2 (List.mem_append_left _ this))).1⟩
  · rw [hc]
    have hfr : ∀ b, (NS Γ w bs b → NS Γ (putCells w (β t).b ((β t).o + (i * z + j)) (a.eval y).cells.toList) ((β t).b :: (q1 ++ ((p1 ++ c1 ++ p4) ++ q3)) ++ ck) b ∧ (putCells w (β t).b ((β t).o + (i * z + j)) (a.eval y).cells.toList).heap[b]? = w.heap[b]?) := by
      rintro b ⟨u1, u2, u3⟩
      have hb1 : b ≠ (β t).b := fun e => u3 (hp2.mem_iff.2 (by simp [e]))
      refine ⟨⟨u1, by rw [hheap.2]; exact u2, ?_⟩, hheap.1 b hb1⟩
      intro hb
      refine u3 (hp2.mem_iff.2 ?_)
      rcases List.mem_append.1 hb with hb | hb
      · rcases List.mem_cons.1 hb with hb | hb
        · exact List.mem_append_left _ (by simp [hb])
        · exact List.mem_append_left _ (List.mem_cons_of_mem _ (hsub b hb))
      · exact List.mem_append_right _ hb
    have hfb : ∀ b ∈ q1 ++ ((p1 ++ c1 ++ p4) ++ q3), (putCells w (β t).b ((β t).o + (i * z + j)) (a.eval y).cells.toList).heap[b]? = w.heap[b]? := fun b hb => hheap.1 b (hbin b (hsub b hb))
    have hel : e.length = z := hzz e (List.mem_of_getElem? he)
    have hel' : (e.take j ++ es' ++ e.drop (j + (cellsD d).length)).length = z := by
      have := hem.lengths
      simp; omega
    refine ⟨q1 ++ ((p1 ++ c1 ++ p4) ++ q3), [], by rw [hown]; simp, ⟨hLz, ?_, .inr ⟨hnil, ws.take (i * z + j) ++ (a.eval y).cells.toList ++ ws.drop (i * z + j + (a.eval y).cells.toList.length), ?_, ?_⟩⟩, rfl⟩
    · intro q hq
      rcases List.mem_or_eq_of_mem_set hq with hq | rfl
      · exact hzz q hq
      · exact hel'
    · obtain ⟨arr, e', lo, hi, g1, g2, g3, g4⟩ := hO
      have hle : (β t).o + ws.length ≤ arr.size := by
        rcases Nat.eq_zero_or_pos ws.length with e0 | e0
        · omega
        · have := g4 (ws.length - 1) (by omega)
          have := (Array.getElem?_eq_some_iff.1 this).1
          omega
      obtain ⟨arr', e'', lo', hi', u1, u2, u3, u4⟩ := own_put (r := ws.length) (vs := (a.eval y).cells.toList) (j := i * z + j) ⟨arr, e', lo, hi, g1, g2, hle, g4⟩ (by rw [hvl]; omega) (Nat.le_refl _)
      refine ⟨arr', e'', lo', hi', u1, u2, ?_, u4⟩
      have := (putCells_heap (off := (β t).o + (i * z + j)) (vs := (a.eval y).cells.toList) g1).1
      rw [this] at u1
      cases u1
      rw [spliceA_size]
      exact g3
    · have m1 := RepEs.frame (β' := β) hfr _ _ _ (fun b hb => hfb b (by simp [hb])) hs1
      have m2 := RepCs.frame0 (β' := β) hfr _ _ _ (fun b hb => hfb b (by simp [hb])) hs4
      have m3 := RepCs.frame0 (β' := β) hfr _ _ _ (fun b hb => hfb b (by simp [hb])) k2
      have m4 := RepCs.frame0 (β' := β) hfr _ _ _ (fun b hb => hfb b (by simp [hb])) hs7
      have m5 := RepEs.frame (β' := β) hfr _ _ _ (fun b hb => hfb b (by simp [hb])) hs3
      have key := m1.append (RepEs.cons ((m2.append m3).append m4) m5)
      have exs : xs.set i (e.take j ++ es' ++ e.drop (j + (cellsD d).length)) = xs.take i ++ (e.take j ++ es' ++ (e.drop j).drop (cellsD d).length) :: xs.drop (i + 1) := by
        rw [List.set_eq_take_append_cons_drop, if_pos hlt, List.drop_drop]
      have ews : ws.take (i * z + j) ++ (a.eval y).cells.toList ++ ws.drop (i * z + j + (a.eval y).cells.toList.length) =
          ws.take (i * z) ++ (((((ws.drop (i * z)).take z).take j ++ (a.eval y).cells.toList) ++ ((((ws.drop (i * z)).take z).drop j).drop (cellsD d).length)) ++ ws.drop ((i + 1) * z)) := by
        rw [← hvl]
        have t1 : ws.take (i * z + j) = ws.take (i * z) ++ ((ws.drop (i * z)).take z).take j := by
          rw [List.take_add, List.take_take, Nat.min_eq_left (by omega)]
        have t2 : ws.drop (i * z + j + (a.eval y).cells.toList.length) = ((((ws.drop (i * z)).take z).drop j).drop (a.eval y).cells.toList.length) ++ ws.drop ((i + 1) * z) := by
          have u1 : ws.drop ((i + 1) * z) = ((ws.drop (i * z)).drop (j + (a.eval y).cells.toList.length)).drop (z - (j + (a.eval y).cells.toList.length)) := by
            rw [List.drop_drop, List.drop_drop]; congr 1; rw [Nat.add_mul]; omega
          have u2 : (((ws.drop (i * z)).take z).drop j).drop (a.eval y).cells.toList.length = ((ws.drop (i * z)).drop (j + (a.eval y).cells.toList.length)).take (z - (j + (a.eval y).cells.toList.length)) := by
            rw [List.drop_drop, List.drop_take]
          rw [u1, u2, List.take_append_drop, List.drop_drop, Nat.add_assoc]
        rw [t1, t2]
        simp only [List.append_assoc]
      rw [exs, ews]
      simpa using key
  · rw [hc]; simp

theorem o_mkslice {c : Cert} {x y : Operand} {T el : TypeId} {k1 k2 : IntKind} {n : Int} {z t bytes : Nat} {zv : Value} {α : Type} {enc : α → List D} {a : α} {xs : List α} (h : mk bytes n a = some xs) (hm : Γ.m ≤ t) (hg : o.guard = none) (hop : o.op = .makeSlice T x y)
    (hc : c = { tn := c.tn, hn := c.hn, out := some (.rf t 0 xs.length none), hw := [(t, .row z (xs.map enc))], fr := [t] }) (hx : OpF c x (.sc (.int k1 n))) (hy : OpF c y (.sc (.int k2 n)))
    (hT : Γ.P.underlying T = some (.slice el)) (hinfo : (Γ.P.info? el).map (fun i => (i.zero, i.size, i.bytes)) = some (some zv, z, bytes)) (hzs : zv.cells.size = z) (he : Emb [] (zv.cells.toList.map D.sc) (enc a) []) (hel : (enc a).length = z) : Valid Γ ops o c := by
  unfold mk at h
  split at h
  · rename_i hh
    cases h
    have hn : n = (n.toNat : Int) := by omega
    refine v_mkslice (n := n.toNat) (e := enc a) hg hop ?_ hm (k1 := k1) (k2 := k2) (by rw [← hn]; exact hx) (by rw [← hn]; exact hy) hT hinfo hzs he hel hh.2.1 (by omega)
    rw [List.length_replicate, List.map_replicate] at hc
    exact hc
  · cases h

theorem o_store_row {c : Cert} {x y : Operand} {T : TypeId} {α : Type} {enc : α → List D} {xs : List α} {a b : α} {ix : Int} {es' : List D} {d : D} {t j z : Nat} {ts : List Nat} {hm : List (Nat × Ent)} (h : idx xs ix = some a) (hg : o.guard = none) (hop : o.op = .store T x y) (hds : o.dst = none)
    (hc : c = { tn := c.tn, hn := c.hn, hx := t :: ts, hw := [(t, .row z ((xs.set ix.toNat b).map enc))] }) (hx : OpF c x (.pt t ix.toNat j)) (hy : OpF c y d) (hb : enc b = (enc a).take j ++ es' ++ (enc a).drop (j + (cellsD d).length))
    (hd : (cellsD d).all D.cell = true) (hz : szOf Γ.P T = some (cellsD d).length) (hj : j + (cellsD d).length ≤ z) (hh : (t, .row z (xs.map enc)) ∈ c.hn) (hem : Emb hm (cellsD d) es' ts) (hmn : ∀ q ∈ hm, q ∈ c.hn ∧ q.1 ≠ t) : Valid Γ ops o c := by
  obtain ⟨h1, h2⟩ := idx_some h
  refine v_store_row (e := enc a) (es' := es') hg hop hds ?_ hx hy hd hz hj hh (by rw [List.getElem?_map, h2]; rfl) hem hmn
  rw [List.map_set, hb] at hc
  exact hc

def notB : Value → Bool
  | .bool _ => false
  | _ => true

end

section
variable {Γ : Ctx} {fc : Code} {k : List II} {σ : St} {T : Type} {K : T → Option (D × List Ent)}

end
end Go.Im

set_option linter.unusedVariables false
namespace Go.Im
open Go

def b2s (xs : List Int) : ByteArray := xs.foldl (fun r n => r.push (UInt8.ofNat n.toNat)) ByteArray.empty

theorem repEs_u8 {β : Nat → Loc} {N : Nat → Prop} {w : World} : ∀ {xs : List Int} {ws : List Value} {bs : List Nat}, RepEs β N w (xs.map eU8) ws bs → ws = xs.map (Value.int .u8)
  | [], ws, bs, h => by simp only [List.map_nil, RepEs] at h; rw [h.1]; rfl
  | x :: xs, ws, bs, h => by
    simp only [List.map_cons, RepEs] at h
    obtain ⟨w1, w2, b1, b2, rfl, rfl, h3, h4⟩ := h
    simp only [eU8, RepCs, Rep] at h3
    obtain ⟨v, vs, c1, c2, rfl, rfl, ⟨rfl, _⟩, rfl, _⟩ := h3
    rw [repEs_u8 h4]
    rfl

section
variable {Γ : Ctx} {ops : Array Oper} {o : Oper}

theorem run_b2s {P : Program} {w : World} {S Dd e : TypeId} {ad : Option Addr} {n cp : Nat} {xs : List Int} (hs : P.underlying S = some (.slice e)) (he : P.underlying e = some (.int .u8)) (hd : P.underlying Dd = some .string) (hn : xs.length = n)
    (h : (ad = none ∧ n = 0) ∨ n = 0 ∨ ∃ b off, ad = some ⟨b, off, none⟩ ∧ Has w b off (xs.map (Value.int .u8))) : (convert S Dd (.slice ad n cp)).run P w = .ok (.string (b2s xs)) w := by
  rw [run_convert_bytes_string w S Dd e ad n cp hs he hd]
  by_cases h0 : n = 0
  · subst h0
    have : xs = [] := List.length_eq_zero_iff.1 hn
    subst this
    cases ad with
    | none => rfl
    | some a =>
      have := run_bytesToString (P := P) w a 0 cp [] (by simp [loadCells, loadCellsFrom, Sem.run_pure])
      exact this
  · rcases h with ⟨_, h⟩ | h | ⟨b, off, rfl, h⟩
    · exact absurd h h0
    · exact absurd h h0
    · exact run_bytesToString w ⟨b, off, none⟩ n cp xs (run_loadCells h (by simp [hn]))

theorem o_b2s_rf {c : Cert} {x : Operand} {S Dd e : TypeId} {t : Nat} {cap : Option Nat} {xs : List Int} (hg : o.guard = none) (hop : o.op = .convert S Dd x) (hc : c = { tn := c.tn, hn := c.hn, out := some (.sc (.string (b2s xs))) })
    (hx : OpF c x (.rf t 0 xs.length cap)) (hh : (t, .row 1 (xs.map eU8)) ∈ c.hn) (hs : Γ.P.underlying S = some (.slice e)) (he : Γ.P.underlying e = some (.int .u8)) (hd : Γ.P.underlying Dd = some .string) : Valid Γ ops o c := by
  rw [hc]
  refine valid_value hg rfl rfl fun β bs σ a w hn hr => ?_
  have h1 := OpF.rep (c := c) hx ⟨fun y hy => hn.1 y hy, fun y hy => hn.2.1 y hy, by rw [hc]; simp⟩ hr
  obtain ⟨b1, hE, _, _⟩ := HRep.get hr.hp (hn.2.1 _ hh)
  obtain ⟨wx, hD, hEx, _⟩ := rf_dst h1 hE (by simp)
  have hwx := repEs_u8 hEx
  subst hwx
  have hv : ∃ ad cp, a.eval x = .slice ad xs.length cp ∧ ((ad = none ∧ xs.length = 0) ∨ xs.length = 0 ∨ ∃ b off, ad = some ⟨b, off, none⟩ ∧ Has w b off (xs.map (Value.int .u8))) := by
    rcases hD with ⟨q1, q2, _, _⟩ | ⟨b, off, cp, q1, _, _, q2, _⟩
    · exact ⟨none, 0, by rw [q1, q2], .inl ⟨rfl, q2⟩⟩
    · exact ⟨_, cp, q1, .inr (.inr ⟨b, off, rfl, q2.has⟩)⟩
  obtain ⟨ad, cp, h2, h3⟩ := hv
  refine ⟨.string (b2s xs), exec_v (s := convert S Dd (a.eval x)) (by simp [execOp, hop]) ?_, fun d hd' => by cases hd'; simp [Rep]⟩
  rw [h2]
  exact run_b2s hs he hd rfl h3

theorem o_b2s_s {c : Cert} {x : Operand} {S Dd e : TypeId} {xs : List Int} (hg : o.guard = none) (hop : o.op = .convert S Dd x) (hc : c = { tn := c.tn, hn := c.hn, out := some (.sc (.string (b2s xs))) })
    (hx : OpF c x (.s false 1 xs.length (xs.map eU8))) (hs : Γ.P.underlying S = some (.slice e)) (he : Γ.P.underlying e = some (.int .u8)) (hd : Γ.P.underlying Dd = some .string) : Valid Γ ops o c := by
  rw [hc]
  refine valid_value hg rfl rfl fun β bs σ a w hn hr => ?_
  have h1 := OpF.rep (c := c) hx ⟨fun y hy => hn.1 y hy, fun y hy => hn.2.1 y hy, by rw [hc]; simp⟩ hr
  simp only [Rep] at h1
  obtain ⟨_, _, ad, cp, h2, _, h3⟩ := h1
  refine ⟨.string (b2s xs), exec_v (s := convert S Dd (a.eval x)) (by simp [execOp, hop]) ?_, fun d hd' => by cases hd'; simp [Rep]⟩
  rw [h2]
  refine run_b2s hs he hd rfl ?_
  rcases h3 with h3 | ⟨_, b, off, ws, q1, _, q3, q4, _⟩ | h3
  · exact .inr (.inl h3.1)
  · have := repEs_u8 q4
    subst this
    exact .inr (.inr ⟨b, off, q1, q3⟩)
  · exact absurd h3.1 (by simp)

section
variable {Γ : Ctx} {ops : Array Oper} {o : Oper}
theorem valid_skipU {g : Nat} {b : Bool} {t : Nat} {v : Value} (hv : v = .bool (!b) ∨ notB v = true) (hg : o.guard = some (g, b)) (hgd : (ops[g]?).bind (·.dst) = some t) : Valid Γ ops o { tn := [(t, .sc v)], out := some (.sc undef) } := by
  intro σ a w Q hd hn hr
  obtain ⟨h0, β, bs, hrb⟩ := hr
  obtain ⟨u, h1, h2⟩ := hrb.tm t _ (hn.1 (t, .sc v) (by simp))
  simp only [Rep] at h2
  obtain ⟨rfl, _⟩ := h2
  have hwt : Region.wanted o (yielded ops a.tmps) = false := by
    rcases hv with rfl | hv
    · simp [Region.wanted, hg, yielded, hgd, h1]
    · cases u <;> simp_all [Region.wanted, yielded, notB]
  rw [if_neg (by simp [hwt])]
  exact Rel.put h0 hrb hd rfl rfl (by simp [Rep])

theorem orcU {fc : Code} {p i g t : Nat} {b : Bool} {v : Value} (hv : v = .bool (!b) ∨ notB v = true) (h : (opAt fc p i).map (fun o => o.guard) = some (some (g, b))) (hd : dstAt fc p g = some t) :
    ∀ id ops draw, sub fc p = .region id ops draw → ∀ o, ops[i]? = some o → Valid Γ ops o { tn := [(t, .sc v)], out := some (.sc undef) } := by
  intro id ops draw hs o ho
  have e : opAt fc p i = some o := by unfold opAt; rw [hs]; exact ho
  rw [e] at h
  simp only [Option.map_some, Option.some.injEq] at h
  refine valid_skipU hv h ?_
  unfold dstAt opAt at hd
  rw [hs] at hd
  exact hd
end

theorem mem_ne {t : Nat} {hm : List (Nat × Ent)} (h : hm.all (fun q => q.1 != t) = true) : ∀ q ∈ hm, q.1 ≠ t := fun q hq => by simpa using List.all_eq_true.1 h q hq

theorem orc1d {fc : Code} {p i : Nat} {c : Cert} {op : Op} (h : (opAt fc p i).map (fun o => (o.op, o.guard, o.dst)) = some (op, none, none)) (hv : ∀ ops o, o.op = op → o.guard = none → o.dst = none → Valid Γ ops o c) :
    ∀ id ops draw, sub fc p = .region id ops draw → ∀ o, ops[i]? = some o → Valid Γ ops o c := by
  intro id ops draw hs o ho
  have e : opAt fc p i = some o := by unfold opAt; rw [hs]; exact ho
  rw [e] at h
  simp at h
  exact hv ops o h.1 h.2.1 h.2.2

def BndI (c : Cert) (x : Option Operand) (dflt : Nat) (n : Int) : Prop :=
  match x with
  | none => n = (dflt : Int)
  | some x => ∃ k, OpF c x (.sc (.int k n))

theorem BndI.f {c : Cert} {x : Option Operand} {dflt : Nat} {n : Int} (h : BndI c x dflt n) (h0 : 0 ≤ n) : BndF c x dflt n.toNat := by
  cases x with
  | none => simp only [BndI] at h; simp only [BndF]; omega
  | some x =>
    obtain ⟨k, hk⟩ := h
    refine ⟨k, ?_⟩
    rw [Int.toNat_of_nonneg h0]
    exact hk

theorem o_ssub {c : Cert} {x : Operand} {T : TypeId} {lo hi : Option Operand} {s r : ByteArray} {l h : Int} (hh : ssub s l h = some r) (hg : o.guard = none) (hop : o.op = .slice T x lo hi none)
    (hc : c = { tn := c.tn, out := some (.sc (.string r)) }) (hx : OpF c x (.sc (.string s))) (h1 : BndI c lo 0 l) (h2 : BndI c hi s.size h) (hT : pureSem Γ.P (underlying T) = some .string) : Valid Γ ops o c := by
  unfold ssub at hh
  split at hh
  · rename_i q
    cases hh
    exact v_slice_str hg hop hc hx hT (h1.f q.1) (h2.f (by omega)) (by omega) (by omega)
  · cases hh

theorem o_lsub {c : Cert} {x : Operand} {T el : TypeId} {lo hi : Option Operand} {z : Nat} {α : Type} {enc : α → List D} {xs r : List α} {l h : Int} (hh : lsub xs l h = some r) (hg : o.guard = none) (hop : o.op = .slice T x lo hi none)
    (hc : c = { tn := c.tn, out := some (.s false z r.length (r.map enc)) }) (hx : OpF c x (.s false z xs.length (xs.map enc))) (h1 : BndI c lo 0 l) (h2 : BndI c hi xs.length h) (hT : pureSem Γ.P (underlying T) = some (.slice el)) (hz : szOf Γ.P el = some z) : Valid Γ ops o c := by
  unfold lsub at hh
  split at hh
  · rename_i q
    cases hh
    have hl : ((xs.drop l.toNat).take (h.toNat - l.toNat)).length = h.toNat - l.toNat := by simp; omega
    rw [hl] at hc
    exact v_slice_s hg hop hc hx hT hz (h1.f q.1) (h2.f (by omega)) (by omega) (by omega) (by rw [List.map_take, List.map_drop])
  · cases hh
end
end Go.Im

set_option linter.unusedVariables false
namespace Go.Im
open Go

theorem roE_map {α : Type} {enc enc' : α → List D} (h : ∀ a, D.ro.roC (enc a) = enc' a) (xs : List α) : D.ro.roE (xs.map enc) = xs.map enc' := by
  induction xs with
  | nil => rfl
  | cons x xs ih => simp only [List.map_cons, D.ro.roE, ih, h]

theorem eSl_ro {α : Type} {o : Bool} {z : Nat} {f f' : α → List D} (h : ∀ a, D.ro.roC (f a) = f' a) (xs : List α) : D.ro.roC (eSl o z f xs) = eSl false z f' xs := by
  simp only [eSl, D.ro.roC, D.ro, roE_map h]

section
variable {Γ : Ctx} {ops : Array Oper} {o : Oper}

theorem key_uniq {α : Type} : ∀ {l : List (Nat × α)} {x y : Nat × α}, (l.map (·.1)).Nodup → x ∈ l → y ∈ l → x.1 = y.1 → x = y
  | q :: qs, x, y, hk, hx, hy, h => by
    simp only [List.map_cons, List.nodup_cons] at hk
    rcases List.mem_cons.1 hx with hx | hx
    · rcases List.mem_cons.1 hy with hy | hy
      · rw [hx, hy]
      · exact absurd (List.mem_map.2 ⟨y, hy, by rw [← h, hx]⟩) hk.1
    · rcases List.mem_cons.1 hy with hy | hy
      · exact absurd (List.mem_map.2 ⟨x, hx, by rw [h, hy]⟩) hk.1
      · exact key_uniq hk.2 hx hy h

theorem outs_men {c : Cert} {dst : Option Nat} {x : Nat × D} {t : Nat} (hx : x ∈ c.outs dst) (ht : t ∈ x.2.men) : t ∈ (match c.out with | some d => d.men | none => []) := by
  obtain ⟨tn, hn, out, hxx, hw, fr⟩ := c
  unfold Cert.outs at hx
  cases dst with
  | none => simp at hx
  | some u =>
    cases out with
    | none => simp at hx
    | some d =>
      simp at hx
      subst hx
      exact ht

theorem valid_ro {c : Cert} (A B : List (Nat × Ent)) (hA : ∀ x ∈ A, x ∈ c.hn) (hhx : c.hx = A.map (·.1)) (hhw : c.hw = A ++ B) (hfr : c.fr = B.map (·.1)) (hnd : (B.map (·.1)).Nodup) (hv : Valid Γ ops o c) : Valid Γ ops o { c with hx := [], hw := B } := by
  intro σ a w Q hd hn hr
  have hn' : Nd c σ := ⟨hn.1, hn.2.1, hn.2.2⟩
  have key : ∀ a' w', Rel Γ (σ.upd o.dst c) a' w' → Rel Γ (σ.upd o.dst { c with hx := [], hw := B }) a' w' := by
    intro a' w' h
    obtain ⟨h0, β, bs, hrb⟩ := hr
    have hkB : ∀ t ∈ B.map (·.1), t ∉ σ.us := fun t ht => hn.2.2 t (by show t ∈ c.fr; rw [hfr]; exact ht)
    refine Rel.weak h (fun x hx => hx) ?_ ?_ ?_
    · intro x hx
      simp only [St.upd, List.mem_append, List.mem_filter] at hx ⊢
      rcases hx with hx | ⟨hx, _⟩
      · exact .inl (by rw [hhw]; exact List.mem_append_right _ hx)
      · by_cases hin : x.1 ∈ c.hx
        · rw [hhx] at hin
          obtain ⟨y, hy, hyx⟩ := List.mem_map.1 hin
          have hy' := hn.2.1 y (hA y hy)
          have : y = x := key_uniq hrb.keys hy' hx hyx
          subst this
          exact .inl (by rw [hhw]; exact List.mem_append_left _ hy)
        · exact .inr ⟨hx, by simpa using hin⟩
    · simp only [St.upd, List.map_append]
      refine List.nodup_append.2 ⟨hnd, List.Nodup.sublist (List.Sublist.map _ List.filter_sublist) hrb.keys, ?_⟩
      intro t ht t' ht' e
      subst e
      obtain ⟨x, hx, rfl⟩ := List.mem_map.1 ht'
      exact hkB _ ht (h0 _ (.inr (List.mem_flatMap.2 ⟨x, (List.mem_filter.1 hx).1, by simp⟩)))
    · intro t ht
      simp only [St.upd, List.mem_append]
      rcases ht with ht | ht
      · obtain ⟨x, hx, hx'⟩ := List.mem_flatMap.1 ht
        simp only [St.upd, List.mem_append, List.mem_filter] at hx
        rcases hx with hx | ⟨hx, _⟩
        · refine .inl ?_
          unfold Cert.men
          refine List.mem_append_left _ ?_
          exact outs_men (c := c) hx hx'
        · exact .inr (h0 t (.inl (List.mem_flatMap.2 ⟨x, hx, hx'⟩)))
      · obtain ⟨x, hx, hx'⟩ := List.mem_flatMap.1 ht
        simp only [St.upd, List.mem_append, List.mem_filter] at hx
        rcases hx with hx | ⟨hx, _⟩
        · refine .inl ?_
          unfold Cert.men
          refine List.mem_append_right _ ?_
          exact List.mem_flatMap.2 ⟨x, hx, hx'⟩
        · exact .inr (h0 t (.inr (List.mem_flatMap.2 ⟨x, hx, hx'⟩)))
  have := hv σ a w Q hd hn' hr
  split at this
  · rename_i hw
    rw [if_pos hw]
    exact Oper.wp_mono key this
  · rename_i hw
    rw [if_neg hw]
    exact key _ _ this
end
end Go.Im

set_option linter.unusedVariables false
namespace Go.Im
open Go

section
variable {H : Type} {enc : TypeId × Value → H} {P : Program} {W : World} {sp : Nat → Bool} {held : Bool}

def Reads (enc : TypeId × Value → H) (P : Program) (W : World) (t : TypeId) {α : Type} (ec : α → List D) (ok : α → Prop) : Prop :=
  ∀ (fuel : Nat) (cs : List Value) (x : DataW H × List MemPlace), DataW.trod enc P W 0 (fun _ => true) true fuel t cs = some x → ∃ a : α, ok a ∧ ∀ β : Nat → Im.Loc, RepCs β (fun b => b < W.heap.size) W false (ec a) cs []

theorem Reads.map {t : TypeId} {α α' : Type} {ec : α → List D} {ok : α → Prop} {ec' : α' → List D} {ok' : α' → Prop} (h : Reads enc P W t ec ok) (f : α → α') (he : ∀ a, ec' (f a) = ec a) (ho : ∀ a, ok a → ok' (f a)) : Reads enc P W t ec' ok' := by
  intro fuel cs x hx
  obtain ⟨a, h1, h2⟩ := h fuel cs x hx
  exact ⟨f a, ho a h1, fun β => by rw [he]; exact h2 β⟩

theorem rep1 {β : Nat → Im.Loc} {N : Nat → Prop} {u : Value} : RepCs β N W false [.sc u] [u] [] := by
  simp only [RepCs, Rep]
  exact ⟨u, [], [], [], rfl, rfl, ⟨rfl, rfl⟩, rfl, rfl⟩

theorem rd_int {t : TypeId} {k : IntKind} (ht : P.underlying t = some (.int k)) : Reads enc P W t (fun v : Int => [.sc (.int k v)]) (fun v => k.min ≤ v ∧ v ≤ k.max) := by
  intro fuel cs x h
  have key : ∃ n, cs = [.int k n] ∧ k.min ≤ n ∧ n ≤ k.max := by
    cases fuel with
    | zero => simp [DataW.trod] at h
    | succ n =>
      unfold DataW.trod at h
      rw [ht] at h
      split at h <;> simp_all
      obtain ⟨⟨rfl, hw⟩, _⟩ := h
      simp only [Lit.wf, Bool.and_eq_true, decide_eq_true_eq] at hw
      exact hw
  obtain ⟨n, rfl, h1⟩ := key
  exact ⟨n, h1, fun β => rep1⟩

theorem rd_bool {t : TypeId} (ht : P.underlying t = some .bool) : Reads enc P W t eB (fun _ => True) := by
  intro fuel cs x h
  have key : ∃ b, cs = [.bool b] := by
    cases fuel with
    | zero => simp [DataW.trod] at h
    | succ n =>
      unfold DataW.trod at h
      rw [ht] at h
      split at h <;> first | exact ⟨_, rfl⟩ | simp_all
  obtain ⟨b, rfl⟩ := key
  exact ⟨b, trivial, fun β => rep1⟩

theorem rd_str {t : TypeId} (ht : P.underlying t = some .string) : Reads enc P W t eStr (fun s => s.size ≤ maxLen) := by
  intro fuel cs x h
  have key : ∃ s, cs = [.string s] ∧ s.size ≤ maxLen := by
    cases fuel with
    | zero => simp [DataW.trod] at h
    | succ n =>
      unfold DataW.trod at h
      rw [ht] at h
      split at h <;> simp_all
  obtain ⟨s, rfl, h1⟩ := key
  exact ⟨s, h1, fun β => rep1⟩

theorem rd_slice {t e : TypeId} {z : Nat} {α : Type} {ec : α → List D} {ok : α → Prop} (ht : P.underlying t = some (.slice e)) (hz : P.cellsOf e = z) (hz0 : 0 < z) (h : Reads enc P W e ec ok) (hlen : ∀ a, (ec a).length = z) :
    Reads enc P W t (fun xs : List α => [.s false z xs.length (xs.map ec)]) (fun xs => xs.length ≤ maxLen ∧ ∀ a ∈ xs, ok a) := by
  intro fuel cs x hx
  have hnil : ∀ β : Nat → Im.Loc, ∀ v : Value, v = .slice none 0 0 → RepCs β (fun b => b < W.heap.size) W false [.s false z ([] : List α).length (([] : List α).map ec)] [v] [] := by
    intro β v hv
    simp only [RepCs, Rep]
    exact ⟨v, [], [], [], rfl, rfl, ⟨rfl, by simp, none, 0, by rw [hv]; rfl, Nat.le_refl _, .inl ⟨rfl, rfl, by simp⟩⟩, rfl, rfl⟩
  rcases DataW.trod_slice ht hx with ⟨rfl, _⟩ | ⟨a, len, cap, elems, rest, n, rfl, rfl, _, _, hcap, hmax, hl, hel, _, _⟩
  · exact ⟨[], ⟨by simp, by simp⟩, fun β => hnil β _ rfl⟩
  · · · have hc : len ≤ cap := hcap
        -- element by element
        have hget : ∀ i, i < len → ∃ (c : List Value) (q : α), W.cells? 0 (a.add (i * z)) z = some c ∧ c.length = z ∧ ok q ∧ ∀ β : Nat → Im.Loc, RepCs β (fun b => b < W.heap.size) W false (ec q) c [] := by
          intro i hi
          have := hel i hi
          have hs : elems[i]? = some elems[i] := List.getElem?_eq_getElem (by omega)
          rw [hs, hz] at this
          obtain ⟨c, h1, h2⟩ := Option.bind_eq_some_iff.1 this
          obtain ⟨q, h3, h4⟩ := h n c _ h2
          refine ⟨c, q, h1, ?_, h3, h4⟩
          have := (h4 (fun _ => ⟨true, 0, 0, 0, 0⟩)).length
          rw [hlen] at this
          exact this
        -- the whole
        have hall : ∀ m, m ≤ len → ∃ (ws : List Value) (qs : List α), qs.length = m ∧ ws.length = m * z ∧ (∀ q ∈ qs, ok q) ∧ (∀ β : Nat → Im.Loc, RepEs β (fun b => b < W.heap.size) W (qs.map ec) ws []) ∧ ∀ j, j < m * z → W.cell? (a.add j) = ws[j]? := by
          intro m
          induction m with
          | zero => intro _; exact ⟨[], [], rfl, by simp, by simp, fun β => by simp [RepEs], by simp⟩
          | succ m ih =>
            intro hm
            obtain ⟨ws, qs, h1, h2, h3, h4, h5⟩ := ih (by omega)
            obtain ⟨c, q, g1, g2, g3, g4⟩ := hget m (by omega)
            refine ⟨ws ++ c, qs ++ [q], by simp [h1], by simp [h2, g2, Nat.add_mul], ?_, fun β => ?_, ?_⟩
            · intro q' hq'
              rcases List.mem_append.1 hq' with hq' | hq'
              · exact h3 q' hq'
              · simp at hq'; rw [hq']; exact g3
            · rw [List.map_append]
              have : RepEs β (fun b => b < W.heap.size) W ([q].map ec) c [] := by
                simp only [List.map_cons, List.map_nil, RepEs]
                exact ⟨c, [], [], [], by simp, rfl, g4 β, rfl, rfl⟩
              exact (h4 β).append this
            · intro j hj
              by_cases hjm : j < m * z
              · rw [List.getElem?_append_left (by omega)]; exact h5 j hjm
              · rw [List.getElem?_append_right (by omega), h2]
                unfold World.cells? at g1
                split at g1
                · have hlt : j - m * z < z := by rw [Nat.add_mul] at hj; omega
                  have := mapM_some_get g1 (j - m * z) (j - m * z) (by simp [hlt])
                  rw [← this]
                  congr 1
                  unfold Addr.add
                  by_cases hmz : m * z = 0
                  · simp [hmz]
                  · by_cases hjz : j - m * z = 0
                    · have : j = m * z := by omega
                      simp [hmz, this]
                    · rw [if_neg (by omega), if_neg hjz, if_neg hmz]
                      simp only [Addr.mk.injEq, and_true, true_and]
                      omega
                · cases g1
        obtain ⟨ws, qs, h1, h2, h3, h4, h5⟩ := hall len (Nat.le_refl _)
        refine ⟨qs, ⟨by omega, h3⟩, fun β => ?_⟩
        simp only [RepCs]
        refine ⟨_, [], [], [], rfl, rfl, ?_, rfl, rfl⟩
        simp only [Rep]
        refine ⟨by simp, ?_, some a, cap, by rw [h1], by rw [h1]; exact hc, ?_⟩
        · intro q hq
          obtain ⟨q', _, rfl⟩ := List.mem_map.1 hq
          exact hlen q'
        · by_cases h0 : len = 0
          · exact .inl ⟨by omega, trivial, by simp⟩
          · have hpos : 0 < len * z := Nat.mul_pos (by omega) hz0
            have hc0 := h5 0 hpos
            rw [List.getElem?_eq_getElem (by omega)] at hc0
            simp only [Addr.add, if_true] at hc0
            unfold World.cell? at hc0
            split at hc0
            · rename_i arr ty fz hb
              split at hc0
              · cases hc0
              · rename_i hsp
                have hspot : a.spot = none := by cases hh : a.spot <;> simp_all
                have hlt : a.block < W.heap.size := by
                  rcases Nat.lt_or_ge a.block W.heap.size with h | h
                  · exact h
                  · rw [Array.getElem?_eq_none h] at hb; cases hb
                refine .inr (.inl ⟨trivial, a.block, a.off, ws, ?_, hlt, ⟨arr, ty, fz, hb, ?_⟩, h4 β, trivial⟩)
                · rw [← hspot]
                · intro k hk
                  have := h5 k (by omega)
                  rw [List.getElem?_eq_getElem hk] at this
                  rw [← this]
                  by_cases hk0 : k = 0
                  · subst hk0
                    simp [World.cell?, Addr.add, hb, hspot]
                  · simp [World.cell?, Addr.add, hk0, hb]
            · cases hc0

def RF (enc : TypeId × Value → H) (P : Program) (W : World) (off : Nat) (fl : List Field) (tot : Nat) {α : Type} (ec : α → List D) (ok : α → Prop) : Prop :=
  ∀ (fuel : Nat) (cs : List Value), (∀ (i : Nat) (f : Field), fl[i]? = some f → ∃ y, DataW.trod enc P W 0 (fun _ => true) true fuel f.type ((cs.drop f.offset).take (P.cellsOf f.type)) = some y) →
    ∃ a : α, ok a ∧ ∀ β : Nat → Im.Loc, RepCs β (fun b => b < W.heap.size) W false (ec a) ((cs.drop off).take tot) []

theorem rf_nil {off : Nat} : RF enc P W off [] 0 (fun _ : Unit => []) (fun _ => True) := fun _ _ _ => ⟨(), trivial, fun β => by simp [RepCs]⟩

theorem rf_cons {off sz tot : Nat} {f : Field} {fl : List Field} {α1 α2 : Type} {e1 : α1 → List D} {o1 : α1 → Prop} {e2 : α2 → List D} {o2 : α2 → Prop} (hoff : f.offset = off) (hsz : P.cellsOf f.type = sz) (h1 : Reads enc P W f.type e1 o1) (h2 : RF enc P W (off + sz) fl tot e2 o2) :
    RF enc P W off (f :: fl) (sz + tot) (fun x : α1 × α2 => e1 x.1 ++ e2 x.2) (fun x => o1 x.1 ∧ o2 x.2) := by
  intro fuel cs hg
  obtain ⟨y, hy⟩ := hg 0 f rfl
  rw [hoff, hsz] at hy
  obtain ⟨a, ha, hr⟩ := h1 _ _ _ hy
  obtain ⟨b, hb, hs⟩ := h2 fuel cs (fun i q hq => hg (i + 1) q (by simpa using hq))
  refine ⟨(a, b), ⟨ha, hb⟩, fun β => ?_⟩
  rw [List.take_add, List.drop_drop]
  exact (hr β).append (hs β)

theorem rd_struct {t : TypeId} {fs : Array Field} {tot : Nat} {α : Type} {ec : α → List D} {ok : α → Prop} (ht : P.underlying t = some (.struct fs)) (htot : P.cellsOf t = tot) (h : RF enc P W 0 fs.toList tot ec ok) : Reads enc P W t ec ok := by
  intro fuel cs x hx
  obtain ⟨xs, n, rfl, _, hl, hn, hf⟩ := DataW.trod_struct ht hx
  obtain ⟨a, ha, hr⟩ := h n cs (fun i f hi => by
    have := hf i f (by simpa using hi)
    have hlt : i < xs.length := by
      have := (List.getElem?_eq_some_iff.1 hi).1
      rw [hn]; simpa using this
    exact ⟨_, this.trans (List.getElem?_eq_getElem hlt)⟩)
  refine ⟨a, ha, fun β => ?_⟩
  have := hr β
  rw [List.drop_zero, List.take_of_length_le (by omega)] at this
  exact this
end
end Go.Im

set_option linter.unusedVariables false
namespace Go.Im
open Go

section
variable {P : Program} {W : World}

theorem arg_struct {β : Nat → Im.Loc} {N : Nat → Prop} {v : Value} {ec : List D} (hv : ∃ cs, v = .agg cs) (hr : RepCs β N W false ec v.cells.toList []) (hone : ec.all okCell = true) : Rep β N W true (.ag ec) v [] := by
  obtain ⟨cs, rfl⟩ := hv
  simp only [Rep]
  exact ⟨trivial, cs.toList, by simp, repCs_one2 hone hr, hr.up⟩

theorem args_nil {β : Nat → Im.Loc} {N : Nat → Prop} : RepCs β N W true [] [] [] := by simp [RepCs]

theorem args_cons {β : Nat → Im.Loc} {N : Nat → Prop} {d : D} {v : Value} {ds : List D} {vs : List Value} (h1 : Rep β N W true d v []) (h2 : RepCs β N W true ds vs []) : RepCs β N W true (d :: ds) (v :: vs) [] := by
  simp only [RepCs]
  exact ⟨v, vs, [], [], rfl, rfl, h1, h2⟩

def Still (W : World) (e : Ending) (W' : World) : Prop := e = .returned (.bool true) ∧ W'.os = W.os ∧ W'.output = W.output ∧ ∀ b, b < W.heap.size → W'.heap[b]? = W.heap[b]?

theorem law_calls {f : FuncId} {args : List D} {vs : List Value} (hok : Ok P f args [] (some (.sc (.bool true), []))) (hargs : ∀ β : Nat → Im.Loc, RepCs β (fun b => b < W.heap.size) W true args vs []) (hg : ∀ q ∈ gtab P, q.1 < W.heap.size ∧ Tab W q.1 q.2) : Calls P f vs.toArray W (Still W) := by
  refine (hok _ rfl W (fun b => b < W.heap.size) (fun _ => ⟨true, 0, 0, 0, 0⟩) vs [] (hargs _) rfl (by simp) (by simp) (fun b hb => ⟨hb, by simp⟩) hg).mono fun e W' h => ?_
  obtain ⟨v, b1, b2, rfl, hq, _, hk, _, _, hr, _⟩ := h
  simp only [Rep] at hr
  exact ⟨by rw [hr.1], hq.1, hq.2, fun b hb => hk b hb (by simp)⟩

theorem still_kept {W' : World} {e : Ending} (h : Still W e W') (may : MemPlace → Prop) : W.keptBut W' may := by
  refine ⟨h.2.1, h.2.2.1, fun i hi => ?_⟩
  rw [h.2.2.2 i hi]
  split <;> simp_all

theorem still_same {W' : World} {e : Ending} (h : Still W e W') {p : MemPlace} (hp : p.block < W.heap.size) : W.sameAt W' p := by
  cases p with
  | cell b o => exact World.cell?_of_block (w := W) (h.2.2.2 b hp)
  | map b => exact h.2.2.2 b hp

theorem still_trod {H : Type} {enc : TypeId × Value → H} {t : TypeId} {W' : World} {e : Ending} (hs : Still W e W') (hl : laidOutB P = true) (hr : P.readableRec t = true) (hrow : t < P.types.size) {v : Value} {d : DataW H} {ps : List MemPlace}
    (h : DataW.Trod enc P W 0 (fun _ => true) true t v d ps) (hlt : ∀ x ∈ ps, x.block < W.heap.size) : DataW.Trod enc P W' 0 (fun b => decide (b < W.heap.size)) true t v d ps :=
  WideElems.Trod_stays hl hr hrow h (fun x hx => still_same hs (hlt x hx)) (fun x hx => by simpa using hlt x hx)
end
end Go.Im

set_option linter.unusedVariables false
namespace Go.Im
open Go

/-! ### A row inside a row gets a name for a while -/
section
variable {Γ : Ctx} {fc : Code} {k : List II} {σ : St} {T : Type} {K : T → Option (D × List Ent)}

end
end Go.Im

set_option linter.unusedVariables false
namespace Go.Im
open Go

section
variable {Γ : Ctx} {fc : Code} {k : List II} {σ : St} {T : Type} {K : T → Option (D × List Ent)}

end

section
variable {Γ : Ctx} {ops : Array Oper} {o : Oper}

end
end Go.Im

set_option linter.unusedVariables false
namespace Go.Im
open Go

/-! ### What is owned is only read from here on -/
section
variable {Γ : Ctx} {fc : Code} {k : List II} {σ : St} {T : Type} {K : T → Option (D × List Ent)}

mutual
inductive Fz (t z : Nat) (xs : List (List D)) : D → D → Prop where
  | same {d : D} : d.men = [] → Fz t z xs d d
  | keep {d : D} : d.men.contains t = false → Fz t z xs d d
  | rf {off n : Nat} {cap : Option Nat} {ys : List (List D)} : off + n ≤ xs.length → ys = ((D.ro.roE xs).drop off).take n → Fz t z xs (.rf t off n cap) (.s false z n ys)
  | fn {f : FuncId} {cs cs' : List D} : FzL t z xs cs cs' → Fz t z xs (.fn f cs) (.fn f cs')
  | ag {cs cs' : List D} : FzL t z xs cs cs' → Fz t z xs (.ag cs) (.ag cs')
  | tu {cs cs' : List D} : FzL t z xs cs cs' → Fz t z xs (.tu cs) (.tu cs')
inductive FzL (t z : Nat) (xs : List (List D)) : List D → List D → Prop where
  | nil : FzL t z xs [] []
  | cons {d d' : D} {ds ds' : List D} : Fz t z xs d d' → FzL t z xs ds ds' → FzL t z xs (d :: ds) (d' :: ds')
end

mutual
theorem Fz.men {t z : Nat} {xs : List (List D)} : ∀ {d d' : D}, Fz t z xs d d' → ∀ q ∈ d'.men, q ∈ d.men ∧ q ≠ t
  | d, _, .same h => by rw [h]; simp
  | d, _, .keep h => fun q hq => ⟨hq, fun e => by subst e; simp at h; exact h hq⟩
  | _, _, .rf _ _ => by simp [D.men]
  | _, _, .fn h => by simpa [D.men] using FzL.men h
  | _, _, .ag h => by simpa [D.men] using FzL.men h
  | _, _, .tu h => by simpa [D.men] using FzL.men h
theorem FzL.men {t z : Nat} {xs : List (List D)} : ∀ {d d' : List D}, FzL t z xs d d' → ∀ q ∈ D.men.menL d', q ∈ D.men.menL d ∧ q ≠ t
  | _, _, .nil => by simp [D.men.menL]
  | _, _, .cons h1 h2 => fun q hq => by
    simp only [D.men.menL, List.mem_append] at hq ⊢
    rcases hq with hq | hq
    · exact ⟨.inl (Fz.men h1 q hq).1, (Fz.men h1 q hq).2⟩
    · exact ⟨.inr (FzL.men h2 q hq).1, (FzL.men h2 q hq).2⟩
end

theorem FzL.length {t z : Nat} {xs : List (List D)} : ∀ {d d' : List D}, FzL t z xs d d' → d'.length = d.length
  | _, _, .nil => rfl
  | _, _, .cons _ h2 => by simp [FzL.length h2]

section
variable {β : Nat → Loc} {N N' : Nat → Prop} {w : World} {t z : Nat} {xs : List (List D)}
mutual
theorem Fz.rep (hN : ∀ b, N b → N' b) {b1 : List Nat} (hE : EntRep β N w (β t) b1 (.row z xs)) (hb : ∀ b ∈ (β t).own ++ b1, N' b) : ∀ {d d' : D} {v : Value}, Fz t z xs d d' → Rep β N w true d v [] → Rep β N' w true d' v []
  | d, _, v, .same hm, h => Rep.frame (fun b hb => ⟨hN b hb, rfl⟩) d true v [] (by simp) (fun _ _ => rfl) h
  | d, _, v, .keep hm, h => Rep.frame (fun b hb => ⟨hN b hb, rfl⟩) d true v [] (by simp) (fun _ _ => rfl) h
  | .rf _ off n cap, .s _ _ _ ys, v, .rf hle hys, h => by
    obtain ⟨hLz, hzz, hrow⟩ := hE
    simp only [Rep] at h
    obtain ⟨_, _, h⟩ := h
    simp only [Rep]
    have hl : ys.length = n := by rw [hys]; simp [roE_length]; omega
    have hz : ∀ e ∈ ys, e.length = z := fun e he => by
      rw [hys] at he
      obtain ⟨e', he', rfl⟩ := roE_mem (List.mem_of_mem_drop (List.mem_of_mem_take he))
      rw [roC_length]; exact hzz e' he'
    refine ⟨hl, hz, ?_⟩
    rcases h with ⟨hnil, _, hn0, rfl⟩ | ⟨hnil, cp, rfl, hcap, hroom, _⟩
    · exact ⟨none, 0, by rw [hn0], by omega, .inl ⟨hn0, trivial, by simp⟩⟩
    · refine ⟨_, cp, rfl, hcap, ?_⟩
      rcases hrow with ⟨hnil', _⟩ | ⟨_, ws, hO, hE⟩
      · rw [hnil] at hnil'; cases hnil'
      · have q := RepEs.ro (β' := β) (N' := N') hN xs ws b1 (fun b hb' => hb b (List.mem_append_right _ hb')) hE
        have hzr : ∀ e ∈ D.ro.roE xs, e.length = z := fun e he => by
          obtain ⟨e', he', rfl⟩ := roE_mem he
          rw [roC_length]; exact hzz e' he'
        have q2 := (RepEs.sub n (RepEs.sub off q hzr).2 (fun e he => hzr e (List.mem_of_mem_drop he))).1
        refine .inr (.inl ⟨trivial, (β t).b, _, _, rfl, hb _ (by simp [Loc.own, hnil]), ?_, hys ▸ q2, trivial⟩)
        rw [hLz]
        exact hO.has.sub (off * z) (n * z)
  | _, _, v, .fn hl, h => by
    simp only [Rep] at h ⊢
    obtain ⟨h1, h2, ws, h3, h4⟩ := h
    exact ⟨trivial, trivial, ws, h3, FzL.rep hN hE hb hl h4⟩
  | _, _, v, .ag hl, h => by
    simp only [Rep] at h ⊢
    obtain ⟨h1, ws, h3, h5, h4⟩ := h
    exact ⟨trivial, ws, h3, h5, FzL.rep hN hE hb hl h4⟩
  | _, _, v, .tu hl, h => by
    simp only [Rep] at h ⊢
    obtain ⟨h1, ws, h3, h4⟩ := h
    exact ⟨trivial, ws, h3, FzL.rep hN hE hb hl h4⟩
theorem FzL.rep (hN : ∀ b, N b → N' b) {b1 : List Nat} (hE : EntRep β N w (β t) b1 (.row z xs)) (hb : ∀ b ∈ (β t).own ++ b1, N' b) : ∀ {ds ds' : List D} {vs : List Value}, FzL t z xs ds ds' → RepCs β N w true ds vs [] → RepCs β N' w true ds' vs []
  | _, _, vs, .nil, h => by simp only [RepCs] at h ⊢; exact h
  | _, _, vs, .cons h1 h2, h => by
    simp only [RepCs] at h ⊢
    obtain ⟨v, vs', b1, b2, rfl, hb', h3, h4⟩ := h
    rw [(List.append_eq_nil_iff.1 hb'.symm).1] at h3
    rw [(List.append_eq_nil_iff.1 hb'.symm).2] at h4
    exact ⟨v, vs', [], [], rfl, rfl, Fz.rep hN hE hb h1 h3, FzL.rep hN hE hb h2 h4⟩
end
end

inductive FzT (t z : Nat) (xs : List (List D)) : List (Nat × D) → List (Nat × D) → Prop where
  | nil : FzT t z xs [] []
  | cons {q : Nat} {d d' : D} {l l' : List (Nat × D)} : Fz t z xs d d' → FzT t z xs l l' → FzT t z xs ((q, d) :: l) ((q, d') :: l')

inductive FzH (t z : Nat) (xs : List (List D)) : List (Nat × Ent) → List (Nat × Ent) → Prop where
  | nil : FzH t z xs [] []
  | box {q : Nat} {cs cs' : List D} {l l' : List (Nat × Ent)} : cs.all D.free = true → FzL t z xs cs cs' → FzH t z xs l l' → FzH t z xs ((q, .box cs) :: l) ((q, .box cs') :: l')
  | keep {q : Nat} {e : Ent} {l l' : List (Nat × Ent)} : e.men.contains t = false → FzH t z xs l l' → FzH t z xs ((q, e) :: l) ((q, e) :: l')

theorem FzH.keys {t z : Nat} {xs : List (List D)} {l l' : List (Nat × Ent)} (h : FzH t z xs l l') : l'.map (·.1) = l.map (·.1) := by
  induction h with
  | nil => rfl
  | box _ _ _ ih => simp [ih]
  | keep _ _ ih => simp [ih]

theorem FzH.menH {t z : Nat} {xs : List (List D)} {l l' : List (Nat × Ent)} (h : FzH t z xs l l') : ∀ q ∈ menH l', q ∈ menH l := by
  induction h with
  | nil => exact fun q h => h
  | box _ h1 _ ih =>
    intro q hq
    simp only [Im.menH, List.flatMap_cons, Ent.men, List.mem_append, List.mem_cons] at hq ⊢
    rcases hq with (hq | hq) | hq
    · exact .inl (.inl hq)
    · exact .inl (.inr (FzL.men h1 q hq).1)
    · exact .inr (ih q hq)
  | keep _ _ ih =>
    intro q hq
    simp only [Im.menH, List.flatMap_cons, List.mem_append, List.mem_cons] at hq ⊢
    rcases hq with hq | hq
    · exact .inl hq
    · exact .inr (ih q hq)

theorem FzH.rep {β : Nat → Loc} {N N' : Nat → Prop} {w : World} {t z : Nat} {xs : List (List D)} {l l' : List (Nat × Ent)} (h : FzH t z xs l l') (hN : ∀ b, N b → N' b) {b1 : List Nat} (hE : EntRep β N w (β t) b1 (.row z xs)) (hb : ∀ b ∈ (β t).own ++ b1, N' b) :
    ∀ {bs : List Nat}, HRep β N w l bs → HRep β N' w l' bs := by
  induction h with
  | nil => exact fun h => h
  | box hfree h1 _ ih =>
    rintro bs ⟨c1, c2, rfl, ⟨hn, hz, ws, hO, hone, hcs⟩, h3⟩
    have := RepCs.free hfree hcs
    subst this
    refine ⟨[], c2, rfl, ⟨hn, by rw [h1.length]; exact hz, ws, hO, hone, FzL.rep hN hE hb h1 hcs⟩, ih h3⟩
  | keep _ _ ih =>
    rintro bs ⟨c1, c2, rfl, h2, h3⟩
    exact ⟨c1, c2, rfl, h2.frame (fun b hb => ⟨hN b hb, rfl⟩) (fun _ _ => rfl) (fun _ => rfl) (fun _ _ => rfl), ih h3⟩

end
end Go.Im

set_option linter.unusedVariables false
namespace Go.Im
open Go

def same {α β : Type} (xs : List α) (ys : List β) : Option Unit := if xs.length = ys.length then some () else none

theorem same_len {α β : Type} {xs : List α} {ys : List β} {u : Unit} (h : same xs ys = some u) : xs.length = ys.length := by
  unfold same at h
  split at h
  · assumption
  · cases h

section
variable {Γ : Ctx} {fc : Code} {k : List II} {σ : St} {T : Type} {K : T → Option (D × List Ent)}

/-! ### Is a slice nil? -/
theorem J_nb {e : Option T} (t : Nat) {n : Nat} (hl : lk σ.tm t = some (.nb n)) (h1 : n = 0 → J Γ fc k ⟨(t, .sc (.bool true)) :: σ.tm, σ.hp, σ.us⟩ e K) (h2 : J Γ fc k ⟨(t, .sc (.bool false)) :: σ.tm, σ.hp, σ.us⟩ e K) : J Γ fc k σ e K := by
  intro r out he hk a w hrel
  obtain ⟨h0, β, bs, h⟩ := hrel
  obtain ⟨v, hv, hr⟩ := h.tm t _ (lk_mem hl)
  simp only [Rep] at hr
  obtain ⟨_, b, rfl, hb⟩ := hr
  have key : ∀ b', a.tmps[t]? = some (.bool b') → Rel Γ ⟨(t, .sc (.bool b')) :: σ.tm, σ.hp, σ.us⟩ a w := by
    intro b' hb'
    refine ⟨fun t' ht' => h0 t' ?_, β, bs, { defers := h.defers, size := h.size, keys := h.keys, par := h.par, grow := h.grow, gh := h.gh, quiet := h.quiet, keep := h.keep, hp := h.hp, nodup := h.nodup, own := h.own, tm := ?_ }⟩
    · rcases ht' with ht' | ht'
      · simp only [menT, List.flatMap_cons, D.men, List.nil_append] at ht'
        exact .inl ht'
      · exact .inr ht'
    · intro t' d hd
      rcases List.mem_cons.1 hd with hd | hd
      · cases hd
        exact ⟨_, hb', by simp [Rep]⟩
      · exact h.tm t' d hd
  cases b with
  | true => exact h1 (hb rfl) r out he hk a w (key _ hv)
  | false => exact h2 r out he hk a w (key _ hv)

theorem J_told {e e' : Option T} (h : e = e') (hj : J Γ fc k σ e' K) : J Γ fc k σ e K := h ▸ hj
end

section
variable {Γ : Ctx} {ops : Array Oper} {o : Oper}
theorem run_nileq {P : Program} {T el : TypeId} {w : World} {ad : Option Addr} {n cap : Nat} (hT : pureSem P (underlying T) = some (.slice el)) :
    (Op.equal T (.slice ad n cap) (.slice none 0 0)).run P w = .ok ad.isNone w := by
  unfold Op.equal Op.maxDepth
  show (Op.equalIn (9999 + 1) T _ _).run P w = _
  unfold Op.equalIn
  rw [run_bind_ok (pureSem_run _ _ w hT)]
  cases ad <;> rfl

theorem v_nileq {c : Cert} {x : Operand} {T U el : TypeId} {wo : Bool} {z n : Nat} {xs : List (List D)} (hg : o.guard = none) (hop : o.op = .binOp .eql T x (.const (.slice none 0 0)) U) (hc : c = { tn := c.tn, out := some (.nb n) })
    (hx : OpF c x (.s wo z n xs)) (hT : pureSem Γ.P (underlying T) = some (.slice el)) : Valid Γ ops o c := by
  refine valid_val (d := .nb n) (f := fun ρ => do eqGuard .eql T x (.const (.slice none 0 0)) (ρ x) (ρ (.const (.slice none 0 0))); binOp .eql T (ρ x) (ρ (.const (.slice none 0 0)))) hg (fun ρ => by simp [execOp, hop]) (by rw [hc]) fun β bs σ a w hn hr => ?_
  have h1 := OpF.rep hx hn hr
  simp only [Rep] at h1
  obtain ⟨_, _, ad, cap, hv, _, h5⟩ := h1
  refine ⟨.bool ad.isNone, ?_, ?_⟩
  · have he : a.eval (.const (.slice none 0 0)) = .slice none 0 0 := rfl
    rw [hv, he]
    rw [run_bind_ok (a := ()) (w' := w) rfl]
    show (do pure (Value.bool (← Op.equal T (.slice ad n cap) (.slice none 0 0))) : Sem Value).run Γ.P w = _
    rw [run_bind_ok (run_nileq hT)]
    rfl
  · simp only [Rep]
    refine ⟨trivial, ad.isNone, rfl, fun hn0 => ?_⟩
    cases ad with
    | some _ => cases hn0
    | none =>
      rcases h5 with h5 | ⟨_, b, off, ws, h6, _⟩ | ⟨_, b, off, ws, bs', h6, _⟩
      · exact h5.1
      · cases h6
      · cases h6
end
end Go.Im

set_option linter.unusedVariables false
namespace Go.Im
open Go

/-! ### Short words -/
def iv (x : Int) : D := .sc (.int .i64 x)
def uv (x : Int) : D := .sc (.int .u8 x)
def bv (b : Bool) : D := .sc (.bool b)
def sv (s : ByteArray) : D := .sc (.string s)
def nv : D := .sc (.slice none 0 0)
def sl {α : Type} (z : Nat) (e : α → List D) (xs : List α) : D := .s false z xs.length (xs.map e)
def so {α : Type} (z : Nat) (e : α → List D) (xs : List α) : D := .s true z xs.length (xs.map e)
def rr {α : Type} (t : Nat) (xs : List α) : D := .rf t 0 xs.length none
def pp (t : Nat) : D := .pt t 0 0
def rE {α : Type} (z : Nat) (e : α → List D) (xs : List α) : Ent := .row z (xs.map e)

/-! ### Places of the text -/
def aftF (fc : Code) : Nat → Nat → List II
  | 0, _ => []
  | f + 1, p => if p ≤ 1 then [] else match sub fc (p / 2) with
    | .seq _ _ => if p % 2 == 0 then .c (p + 1) :: aftF fc f (p / 2) else aftF fc f (p / 2)
    | .block id _ => .b id :: aftF fc f (p / 2)
    | .loop _ => .l p :: aftF fc f (p / 2)
    | _ => aftF fc f (p / 2)

def aft (fc : Code) (p : Nat) : List II := aftF fc 250 p
def atI (fc : Code) (p : Nat) : List II := .c p :: aft fc p

def ctlT (fc : Code) (tm : List (Nat × D)) (p : Nat) : Nat → List II → Option (List II)
  | 0, _ => none
  | n + 1, k => match k with
    | .c q :: r => if q = p then some r else match ctl1 fc tm (.c q :: r) with
      | some k' => ctlT fc tm p n k'
      | none => none
    | k => match ctl1 fc tm k with
      | some k' => ctlT fc tm p n k'
      | none => none

theorem ctlT_spec {fc : Code} {tm : List (Nat × D)} {p : Nat} : ∀ (n : Nat) (k r : List II), ctlT fc tm p n k = some r → ∃ m, ctlN fc tm m k = some (.c p :: r)
  | 0, k, r, h => by cases h
  | n + 1, k, r, h => by
    unfold ctlT at h
    split at h
    · rename_i q r'
      split at h
      · rename_i e; subst e; cases h; exact ⟨0, rfl⟩
      · split at h
        · rename_i k' hk'
          obtain ⟨m, hm⟩ := ctlT_spec n k' r h
          exact ⟨m + 1, by simp only [ctlN, hk']; exact hm⟩
        · cases h
    · split at h
      · rename_i k' hk'
        obtain ⟨m, hm⟩ := ctlT_spec n k' r h
        exact ⟨m + 1, by simp only [ctlN, hk']; exact hm⟩
      · cases h

def II.eq : II → II → Bool
  | .c x, .c y => x == y
  | .b x, .b y => x == y
  | .l x, .l y => x == y
  | _, _ => false

theorem II.eq_spec : ∀ {p q : II}, II.eq p q = true → p = q
  | .c x, .c y, h => by simp [II.eq] at h; rw [h]
  | .b x, .b y, h => by simp [II.eq] at h; rw [h]
  | .l x, .l y, h => by simp [II.eq] at h; rw [h]
  | .c _, .b _, h => by cases h
  | .c _, .l _, h => by cases h
  | .b _, .c _, h => by cases h
  | .b _, .l _, h => by cases h
  | .l _, .c _, h => by cases h
  | .l _, .b _, h => by cases h

def IIs.eq : List II → List II → Bool
  | [], [] => true
  | a :: k, b :: k' => II.eq a b && IIs.eq k k'
  | _, _ => false

theorem IIs.eq_spec : ∀ {a b : List II}, IIs.eq a b = true → a = b
  | [], [], _ => rfl
  | a :: k, b :: k', h => by
    simp only [IIs.eq, Bool.and_eq_true] at h
    rw [II.eq_spec h.1, IIs.eq_spec h.2]
  | [], _ :: _, h => by cases h
  | _ :: _, [], h => by cases h

def ctlE (fc : Code) (tm : List (Nat × D)) (k' : List II) : Nat → List II → Bool
  | 0, _ => false
  | n + 1, k => if k.length == k'.length && IIs.eq k k' then true else match ctl1 fc tm k with
    | some k2 => ctlE fc tm k' n k2
    | none => false

theorem ctlE_spec {fc : Code} {tm : List (Nat × D)} {k' : List II} : ∀ (n : Nat) (k : List II), ctlE fc tm k' n k = true → ∃ m, ctlN fc tm m k = some k'
  | 0, k, h => by cases h
  | n + 1, k, h => by
    unfold ctlE at h
    split at h
    · rename_i e
      simp only [Bool.and_eq_true] at e
      exact ⟨0, by simp only [ctlN]; rw [IIs.eq_spec e.2]⟩
    · split at h
      · rename_i k2 hk2
        obtain ⟨m, hm⟩ := ctlE_spec n k2 h
        exact ⟨m + 1, by simp only [ctlN, hk2]; exact hm⟩
      · cases h

def ctlR (fc : Code) (tm : List (Nat × D)) : Nat → List II → Bool
  | 0, _ => false
  | n + 1, k => match k with
    | [] => true
    | .c q :: r => match sub fc q with
      | .ret => true
      | _ => match ctl1 fc tm (.c q :: r) with
        | some k2 => ctlR fc tm n k2
        | none => false
    | k => match ctl1 fc tm k with
      | some k2 => ctlR fc tm n k2
      | none => false

theorem ctlR_spec {fc : Code} {tm : List (Nat × D)} : ∀ (n : Nat) (k : List II), ctlR fc tm n k = true → ∃ m k', ctlN fc tm m k = some k' ∧ (k' = [] ∨ ∃ p k'', k' = .c p :: k'' ∧ sub fc p = .ret)
  | 0, k, h => by cases h
  | n + 1, k, h => by
    unfold ctlR at h
    split at h
    · exact ⟨0, [], rfl, .inl rfl⟩
    · rename_i q r
      split at h
      · rename_i hs
        exact ⟨0, _, rfl, .inr ⟨q, r, rfl, hs⟩⟩
      · split at h
        · rename_i k2 hk2
          obtain ⟨m, k', h1, h2⟩ := ctlR_spec n k2 h
          exact ⟨m + 1, k', by simp only [ctlN, hk2]; exact h1, h2⟩
        · cases h
    · split at h
      · rename_i k2 hk2
        obtain ⟨m, k', h1, h2⟩ := ctlR_spec n k2 h
        exact ⟨m + 1, k', by simp only [ctlN, hk2]; exact h1, h2⟩
      · cases h

section
variable {Γ : Ctx} {fc : Code} {k : List II} {σ : St} {T : Type} {K : T → Option (D × List Ent)}

theorem orcN {p : Nat} : OrcV Γ fc p [] := trivial

def ctlG (fc : Code) (tm : List (Nat × D)) (p : Nat) (k : List II) : Bool := match ctlT fc tm p 60 k with
  | some r => IIs.eq r (aft fc p)
  | none => false

theorem J_g {e : Option T} (p : Nat) (ids : List (Nat × Nat)) (tm2 : List (Nat × D)) (hp2 : List (Nat × Ent)) {orc : List (Nat × Cert)} (hor : OrcV Γ fc p orc) (hj : J Γ fc (aft fc p) (St.mk' tm2 hp2) e K)
    (h : (ctlG fc σ.tm p k && Γ.P.follows .mixedOrders, (chk Γ.P Γ.nt Γ.m fc p orc ids σ tm2 hp2).1, (chk Γ.P Γ.nt Γ.m fc p orc ids σ tm2 hp2).2.2.1, (chk Γ.P Γ.nt Γ.m fc p orc ids σ tm2 hp2).2.2.2.2) =
      (true, (chk Γ.P Γ.nt Γ.m fc p orc ids σ tm2 hp2).2.1, (chk Γ.P Γ.nt Γ.m fc p orc ids σ tm2 hp2).2.2.2.1, true) := by kernel_rfl) : J Γ fc k σ e K := by
  simp only [Prod.mk.injEq, Bool.and_eq_true] at h
  obtain ⟨⟨h0, hm⟩, h1, h2, h3⟩ := h
  unfold ctlG at h0
  split at h0
  · rename_i r hr
    obtain ⟨m, hm2⟩ := ctlT_spec _ _ _ hr
    rw [IIs.eq_spec h0] at hm2
    refine J_ctl m _ hm2 (J_run orc ids tm2 hp2 hm hor ?_ hj)
    simp only [Prod.mk.injEq]
    exact ⟨h1, h2, h3⟩
  · cases h0

theorem J_if {b : Bool} {x y : Option T} (t : Nat) (hl : lk σ.tm t = some (.sc (.bool b)) := by kernel_rfl) (h1 : b = true → J Γ fc k ⟨(t, .sc (.bool true)) :: σ.tm, σ.hp, σ.us⟩ x K) (h2 : b = false → J Γ fc k ⟨(t, .sc (.bool false)) :: σ.tm, σ.hp, σ.us⟩ y K) :
    J Γ fc k σ (if b then x else y) K := by
  cases b with
  | true => exact J_lit true hl rfl (h1 rfl)
  | false => exact J_lit false hl rfl (h2 rfl)

theorem J_wc {e : Option T} {k' : List II} {tm2 : List (Nat × D)} {hp2 : List (Nat × Ent)} (hj : J Γ fc k' (St.mk' tm2 hp2) e K)
    (h : (ctlE fc σ.tm k' 60 k, tm2.map (fun x => lk σ.tm x.1), hp2.map (fun x => lk σ.hp x.1), nodupK (hp2.map (·.1))) = (true, tm2.map (fun x => some x.2), hp2.map (fun x => some x.2), true) := by kernel_rfl) : J Γ fc k σ e K := by
  simp only [Prod.mk.injEq] at h
  obtain ⟨m, hm⟩ := ctlE_spec _ _ h.1
  refine J_ctl m _ hm (J_wk tm2 hp2 ?_ hj)
  simp only [Prod.mk.injEq]
  exact h.2

theorem J_b {S : Type} {g : S → Option T} {s : S} {k' : List II} {tm2 : List (Nat × D)} {hp2 : List (Nat × Ent)} (hj : J Γ fc k' (St.mk' tm2 hp2) (g s) K)
    (h : (ctlE fc σ.tm k' 60 k, tm2.map (fun x => lk σ.tm x.1), hp2.map (fun x => lk σ.hp x.1), nodupK (hp2.map (·.1))) = (true, tm2.map (fun x => some x.2), hp2.map (fun x => some x.2), true) := by kernel_rfl) :
    J Γ fc k σ (some (Lp.go s)) (fun x => (Lp.elim g x).bind K) := J_bk (J_wc hj h)

theorem J_qw {V : Type} {v : V} {w : T} {K0 : V → Option (D × List Ent)} {k' : List II} {tm2 : List (Nat × D)} {hp2 : List (Nat × Ent)} (hj : J Γ fc k' (St.mk' tm2 hp2) (some v) K0) (hK : K w = K0 v)
    (h : (ctlE fc σ.tm k' 60 k, tm2.map (fun x => lk σ.tm x.1), hp2.map (fun x => lk σ.hp x.1), nodupK (hp2.map (·.1))) = (true, tm2.map (fun x => some x.2), hp2.map (fun x => some x.2), true) := by kernel_rfl) :
    J Γ fc k σ (some w) K := J_q (J_wc hj h) hK

theorem J_lq {U : Type} {y : Option U} {f : U → Option T} {k' : List II} {tm2 : List (Nat × D)} {hp2 : List (Nat × Ent)} (hj : J Γ fc k' (St.mk' tm2 hp2) y (fun x => (f x).bind K))
    (h : (ctlE fc σ.tm k' 60 k, tm2.map (fun x => lk σ.tm x.1), hp2.map (fun x => lk σ.hp x.1), nodupK (hp2.map (·.1))) = (true, tm2.map (fun x => some x.2), hp2.map (fun x => some x.2), true) := by kernel_rfl) :
    J Γ fc k σ (y.bind f) K := J_bindK (J_wc hj h)

theorem J_lqF {R V : Type} {y : Option (Fl R V)} {K0 : R → Option (D × List Ent)} {fr : R → Option T} {rest : V → Option T} {k' : List II} {tm2 : List (Nat × D)} {hp2 : List (Nat × Ent)} (hr : ∀ r, (fr r).bind K = K0 r)
    (hj : J Γ fc k' (St.mk' tm2 hp2) y (Fl.go K0 (fun v => (rest v).bind K)))
    (h : (ctlE fc σ.tm k' 60 k, tm2.map (fun x => lk σ.tm x.1), hp2.map (fun x => lk σ.hp x.1), nodupK (hp2.map (·.1))) = (true, tm2.map (fun x => some x.2), hp2.map (fun x => some x.2), true) := by kernel_rfl) :
    J Γ fc k σ (y.bind (Fl.go fr rest)) K := J_loop hr (J_wc hj h)

/-! ### Going back -/
def rsOf (P : Program) (f : FuncId) : List ResultVar := match P.funcs[f]? with
  | some fn => fn.results.toList
  | none => []

theorem funcs_rs {P : Program} {f : FuncId} (h : (P.funcs[f]?).isSome = true) : ∃ fn, P.funcs[f]? = some fn ∧ fn.results.toList = rsOf P f := by
  unfold rsOf
  cases hf : P.funcs[f]? with
  | none => rw [hf] at h; cases h
  | some fn => exact ⟨fn, rfl, rfl⟩

def D.plain : D → Bool
  | .ag cs => cs.all D.nest
  | d => d.nest

theorem Ret.plain {hn : List (Nat × Ent)} {d : D} (h : d.plain = true) : Ret hn d d [] := by
  cases d with
  | ag cs => exact .ag (Emb.all_keep hn cs h)
  | _ => exact .cell (.keep h .nil)

theorem Rets.plain {hn : List (Nat × Ent)} : ∀ {ds : List D}, ds.all D.plain = true → Rets hn ds ds []
  | [], _ => .nil
  | d :: ds, h => by
    simp only [List.all_cons, Bool.and_eq_true] at h
    exact .cons (t1 := []) (Ret.plain h.1) (Rets.plain h.2) (by simp)

theorem nest_men : ∀ {cs : List D}, cs.all D.nest = true → D.men.menL cs = []
  | [], _ => rfl
  | d :: cs, h => by
    simp only [List.all_cons, Bool.and_eq_true] at h
    simp only [D.men.menL, nest_men h.2, List.append_nil]
    have := h.1
    cases d <;> simp_all [D.nest, D.men]

theorem plain_men : ∀ {ds : List D}, ds.all D.plain = true → D.men.menL ds = []
  | [], _ => rfl
  | d :: ds, h => by
    simp only [List.all_cons, Bool.and_eq_true] at h
    simp only [D.men.menL, plain_men h.2, List.append_nil]
    have := h.1
    cases d with
    | ag cs => simp only [D.men]; exact nest_men this
    | _ => simp_all [D.plain, D.nest, D.men]

def retChk (Γ : Ctx) (fc : Code) (k : List II) (σ : St) (hout : List Ent) : Bool × Option (List D) × List (Option Ent) × Bool × List Nat × Bool :=
  (ctlR fc σ.tm 60 k, resL Γ.P σ.tm σ.hp (rsOf Γ.P Γ.fid), (enumE hout).map (fun x => lk σ.hp x.1), Nat.ble hout.length Γ.m, hout.flatMap Ent.men, (Γ.P.funcs[Γ.fid]?).isSome)

theorem J_rm {v : T} {ds ds' : List D} {ts : List Nat} {hout : List Ent} (hret : Rets σ.hp ds ds' ts) (hK : K v = some (outD ds', hout))
    (h : (retChk Γ fc k σ hout, D.men.menL ds', ts.all (fun t => Nat.ble hout.length t)) = ((true, some ds, (enumE hout).map (fun x => some x.2), true, [], true), [], true) := by kernel_rfl) : J Γ fc k σ (some v) K := by
  simp only [retChk, Prod.mk.injEq] at h
  obtain ⟨⟨h1, h2, h3, h4, h5, h6⟩, h7, h8⟩ := h
  obtain ⟨m, k', g1, g2⟩ := ctlR_spec _ _ h1
  obtain ⟨fn, g3, g4⟩ := funcs_rs h6
  refine J_ctl m k' g1 (J_ret g2 g3 g4 (resL_spec h2) hret (fun x hx => ⟨facts_of h3 x hx, fun ht => ?_⟩) (Nat.le_of_ble_eq_true h4) (by rw [h7]; simp) (fun e he t ht => ?_) hK)
  · have h1 := Nat.le_of_ble_eq_true (List.all_eq_true.1 h8 _ ht)
    have h2 := (List.getElem?_eq_some_iff.1 (enumE_get.1 hx)).1
    omega
  · have : t ∈ hout.flatMap Ent.men := List.mem_flatMap.2 ⟨e, he, ht⟩
    rw [h5] at this
    simp at this

theorem J_r1 {v : T} {d : D} {hout : List Ent} (hK : K v = some (d, hout))
    (h : (retChk Γ fc k σ hout, d.plain) = ((true, some [d], (enumE hout).map (fun x => some x.2), true, [], true), true) := by kernel_rfl) : J Γ fc k σ (some v) K := by
  simp only [Prod.mk.injEq] at h
  have hp : [d].all D.plain = true := by simpa using h.2
  refine J_rm (ds := [d]) (ds' := [d]) (ts := []) (Rets.plain hp) hK ?_
  simp only [Prod.mk.injEq]
  exact ⟨h.1, plain_men hp, rfl⟩

theorem J_rT {v : T} {ds : List D} {hout : List Ent} (hK : K v = some (.tu ds, hout))
    (h : (retChk Γ fc k σ hout, ds.all D.plain, ds.length == 1) = ((true, some ds, (enumE hout).map (fun x => some x.2), true, [], true), true, false) := by kernel_rfl) : J Γ fc k σ (some v) K := by
  simp only [Prod.mk.injEq] at h
  obtain ⟨h1, hp, hl⟩ := h
  have : outD ds = .tu ds := by
    match ds, hl with
    | [], _ => rfl
    | d1 :: d2 :: ds, _ => rfl
  refine J_rm (ds := ds) (ds' := ds) (ts := []) (Rets.plain hp) (by rw [this]; exact hK) ?_
  simp only [Prod.mk.injEq]
  exact ⟨h1, plain_men hp, rfl⟩
end

/-! ### What is told of operations -/
def OpV (Γ : Ctx) (op : Op) (c : Cert) : Prop := ∀ (ops : Array Oper) (o : Oper), o.op = op → o.guard = none → Valid Γ ops o c
def OpVd (Γ : Ctx) (op : Op) (c : Cert) : Prop := ∀ (ops : Array Oper) (o : Oper), o.op = op → o.guard = none → o.dst = none → Valid Γ ops o c

section
variable {Γ : Ctx} {fc : Code} {p : Nat}

theorem orcC {rest : List (Nat × Cert)} {op : Op} {c : Cert} (i : Nat) (hv : OpV Γ op c) (hr : OrcV Γ fc p rest) (h : (opAt fc p i).map (fun o => (o.op, o.guard)) = some (op, none) := by kernel_rfl) : OrcV Γ fc p ((i, c) :: rest) :=
  ⟨orc1 h hv, hr⟩

theorem orcD {rest : List (Nat × Cert)} {op : Op} {c : Cert} (i : Nat) (hv : OpVd Γ op c) (hr : OrcV Γ fc p rest) (h : (opAt fc p i).map (fun o => (o.op, o.guard, o.dst)) = some (op, none, none) := by kernel_rfl) : OrcV Γ fc p ((i, c) :: rest) :=
  ⟨orc1d h hv, hr⟩

theorem orcH {rest : List (Nat × Cert)} {op : Op} {c : Cert} (i g t : Nat) (b : Bool) (hv : OpV Γ op c) (hr : OrcV Γ fc p rest) (h : ((opAt fc p i).map (fun o => (o.op, o.guard)), dstAt fc p g) = (some (op, some (g, b)), some t) := by kernel_rfl) :
    OrcV Γ fc p ((i, { c with tn := (t, .sc (.bool b)) :: c.tn }) :: rest) := by
  simp only [Prod.mk.injEq] at h
  exact ⟨orcG h.1 h.2 hv, hr⟩

theorem orcV {rest : List (Nat × Cert)} {c : Cert} (i : Nat) (hv : ∀ id ops draw, sub fc p = .region id ops draw → ∀ o, ops[i]? = some o → Valid Γ ops o c) (hr : OrcV Γ fc p rest) : OrcV Γ fc p ((i, c) :: rest) := ⟨hv, hr⟩

def tnO (x : Operand) (d : D) : List (Nat × D) := match x with
  | .tmp t => [(t, d)]
  | _ => []

def OkO (x : Operand) (d : D) : Prop := match x with
  | .tmp _ => True
  | .const v => d = .sc v
  | .func f => d = .fn f []
  | .global _ => False

theorem OkO.f {c : Cert} {x : Operand} {d : D} (h : OkO x d) (hs : ∀ y ∈ tnO x d, y ∈ c.tn) : OpF c x d := by
  cases x with
  | tmp t => exact hs _ (by simp [tnO])
  | const v => exact h
  | func f => exact h
  | global g => exact h.elim

theorem x_ix {α : Type} {xs : List α} {i : Int} {a : α} {kk : IntKind} (T el z : Nat) (enc : α → List D) (x y : Operand) (h : idx xs i = some a) (hx : OkO x (.s false z xs.length (xs.map enc)) := by trivial) (hy : OkO y (.sc (.int kk i)) := by first | trivial | rfl)
    (hT : (pureSem Γ.P (underlying T), szOf Γ.P el) = (some (.slice el), some z) := by kernel_rfl) : OpV Γ (.indexAddr T x y) { tn := tnO x (.s false z xs.length (xs.map enc)) ++ tnO y (.sc (.int kk i)), out := some (.ps (enc a)) } := by
  simp only [Prod.mk.injEq] at hT
  intro ops o hop hg
  exact o_index h hg hop rfl (hx.f (fun y hy => List.mem_append_left _ hy)) (hy.f (fun y hy => List.mem_append_right _ hy)) hT.1 hT.2

theorem x_ixr {α : Type} {xs : List α} {i : Int} {a : α} {kk : IntKind} (T el z t : Nat) (enc : α → List D) (x y : Operand) (h : idx xs i = some a) (hx : OkO x (.rf t 0 xs.length none) := by trivial) (hy : OkO y (.sc (.int kk i)) := by first | trivial | rfl)
    (hT : (pureSem Γ.P (underlying T), szOf Γ.P el) = (some (.slice el), some z) := by kernel_rfl) :
    OpV Γ (.indexAddr T x y) { tn := tnO x (.rf t 0 xs.length none) ++ tnO y (.sc (.int kk i)), hn := [(t, rE z enc xs)], out := some (.pt t i.toNat 0) } := by
  simp only [Prod.mk.injEq] at hT
  intro ops o hop hg
  exact o_index_rf h hg hop rfl (hx.f (fun y hy => List.mem_append_left _ hy)) (hy.f (fun y hy => List.mem_append_right _ hy)) (.head _) hT.1 hT.2

theorem x_ldr {α : Type} {xs : List α} {i : Int} {a : α} {d : D} (T z t j : Nat) (enc : α → List D) (x : Operand) (h : idx xs i = some a) (hd : (((enc a).drop j).all okCell, ofCells Γ.P T ((enc a).drop j)) = (true, some d)) (hx : OkO x (.pt t i.toNat j) := by trivial) :
    OpV Γ (.load T x) { tn := tnO x (.pt t i.toNat j), hn := [(t, rE z enc xs)], out := some d } := by
  simp only [Prod.mk.injEq] at hd
  intro ops o hop hg
  exact o_load_row h hg hop rfl (hx.f (fun y hy => hy)) (.head _) hd.1 hd.2

theorem x_bi {s : ByteArray} {i b : Int} {kk : IntKind} (T : Nat) (x y : Operand) (h : bidx s i = some b) (hx : OkO x (.sc (.string s)) := by first | trivial | rfl) (hy : OkO y (.sc (.int kk i)) := by first | trivial | rfl) (hT : pureSem Γ.P (underlying T) = some .string := by kernel_rfl) :
    OpV Γ (.index T x y) { tn := tnO x (.sc (.string s)) ++ tnO y (.sc (.int kk i)), out := some (.sc (.int .u8 b)) } := by
  intro ops o hop hg
  exact o_bidx h hg hop rfl (hx.f (fun y hy => List.mem_append_left _ hy)) (hy.f (fun y hy => List.mem_append_right _ hy)) hT

theorem x_cat {s1 s2 s : ByteArray} (T U : Nat) (x y : Operand) (h : cat s1 s2 = some s) (hx : OkO x (.sc (.string s1)) := by first | trivial | rfl) (hy : OkO y (.sc (.string s2)) := by first | trivial | rfl) :
    OpV Γ (.binOp .add T x y U) { tn := tnO x (.sc (.string s1)) ++ tnO y (.sc (.string s2)), out := some (.sc (.string s)) } := by
  intro ops o hop hg
  exact o_concat h hg hop rfl (hx.f (fun y hy => List.mem_append_left _ hy)) (hy.f (fun y hy => List.mem_append_right _ hy))

theorem x_nileq {α : Type} {xs : List α} (T el U z : Nat) (enc : α → List D) (x : Operand) (hx : OkO x (.s false z xs.length (xs.map enc)) := by trivial) (hT : pureSem Γ.P (underlying T) = some (.slice el) := by kernel_rfl) :
    OpV Γ (.binOp .eql T x (.const (.slice none 0 0)) U) { tn := tnO x (.s false z xs.length (xs.map enc)), out := some (.nb xs.length) } := by
  intro ops o hop hg
  exact v_nileq hg hop rfl (hx.f (fun y hy => hy)) hT

def tnB (x : Option Operand) (i : Int) : List (Nat × D) := match x with
  | some y => tnO y (.sc (.int .i64 i))
  | none => []
def OkB (x : Option Operand) (dflt i : Int) : Prop := match x with
  | some y => OkO y (.sc (.int .i64 i))
  | none => i = dflt

theorem OkB.f {c : Cert} {x : Option Operand} {dflt : Nat} {i : Int} (h : OkB x dflt i) (hs : ∀ y ∈ tnB x i, y ∈ c.tn) : BndI c x dflt i := by
  cases x with
  | none => exact h
  | some y => exact ⟨_, OkO.f (d := .sc (.int .i64 i)) h hs⟩

theorem x_ss {s r : ByteArray} {l hi : Int} (T : Nat) (x : Operand) (lo ho : Option Operand) (h : ssub s l hi = some r) (hx : OkO x (.sc (.string s)) := by first | trivial | rfl) (hl : OkB lo (0 : Nat) l := by first | trivial | rfl) (hh : OkB ho s.size hi := by first | trivial | rfl) (hT : pureSem Γ.P (underlying T) = some .string := by kernel_rfl) :
    OpV Γ (.slice T x lo ho none) { tn := tnO x (.sc (.string s)) ++ (tnB lo l ++ tnB ho hi), out := some (.sc (.string r)) } := by
  intro ops o hop hg
  exact o_ssub h hg hop rfl (hx.f (fun y hy => List.mem_append_left _ hy)) (hl.f (fun y hy => List.mem_append_right _ (List.mem_append_left _ hy))) (hh.f (fun y hy => List.mem_append_right _ (List.mem_append_right _ hy))) hT

theorem x_ls {α : Type} {xs r : List α} {l hi : Int} (T el z : Nat) (enc : α → List D) (x : Operand) (lo ho : Option Operand) (h : lsub xs l hi = some r) (hx : OkO x (.s false z xs.length (xs.map enc)) := by first | trivial | rfl) (hl : OkB lo (0 : Nat) l := by first | trivial | rfl) (hh : OkB ho xs.length hi := by first | trivial | rfl)
    (hT : (pureSem Γ.P (underlying T), szOf Γ.P el) = (some (.slice el), some z) := by kernel_rfl) :
    OpV Γ (.slice T x lo ho none) { tn := tnO x (.s false z xs.length (xs.map enc)) ++ (tnB lo l ++ tnB ho hi), out := some (.s false z r.length (r.map enc)) } := by
  simp only [Prod.mk.injEq] at hT
  intro ops o hop hg
  exact o_lsub h hg hop rfl (hx.f (fun y hy => List.mem_append_left _ hy)) (hl.f (fun y hy => List.mem_append_right _ (List.mem_append_left _ hy))) (hh.f (fun y hy => List.mem_append_right _ (List.mem_append_right _ hy))) hT.1 hT.2
end
end Go.Im

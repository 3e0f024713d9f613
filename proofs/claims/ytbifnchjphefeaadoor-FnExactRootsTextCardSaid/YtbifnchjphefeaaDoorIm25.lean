import Derived.Test.YtbifnchjphefeaaDoorIm24
set_option linter.unusedVariables false
namespace Go.Im
open Go

def bs (l : List UInt8) : ByteArray := ⟨l.toArray⟩

/-! ### Loops -/
inductive Lp (S T : Type) where
  | go (s : S)
  | done (t : T)

def Lp.elim {S T : Type} (f : S → Option T) : Lp S T → Option T
  | .go s => f s
  | .done t => some t

def run {S T : Type} (b : S → Option (Lp S T)) : Nat → S → Option T
  | 0, _ => none
  | n + 1, s => (b s).bind (Lp.elim (run b n))

open Classical in
noncomputable def loop {S T : Type} (b : S → Option (Lp S T)) (s : S) : Option T := if h : ∃ n t, run b n s = some t then some (Classical.choose (Classical.choose_spec h)) else none

section
variable {S T : Type} {b : S → Option (Lp S T)}

theorem run_mono : ∀ {n m : Nat} {s : S} {t : T}, run b n s = some t → n ≤ m → run b m s = some t
  | 0, _, _, _, h, _ => by cases h
  | n + 1, 0, _, _, _, h => by omega
  | n + 1, m + 1, s, t, h, hm => by
    simp only [run] at h ⊢
    obtain ⟨x, h1, h2⟩ := Option.bind_eq_some_iff.1 h
    rw [h1]
    cases x with
    | go s' => exact run_mono (n := n) (m := m) h2 (by omega)
    | done t' => exact h2

theorem loop_some {s : S} {t : T} : loop b s = some t ↔ ∃ n, run b n s = some t := by
  unfold loop
  split
  · rename_i h
    have h1 := Classical.choose_spec (Classical.choose_spec h)
    constructor
    · intro e
      cases e
      exact ⟨_, h1⟩
    · rintro ⟨n, hn⟩
      have a := run_mono h1 (Nat.le_max_left _ n)
      have c := run_mono hn (Nat.le_max_right (Classical.choose h) n)
      rw [a] at c
      exact c
  · rename_i h
    constructor
    · intro e; cases e
    · rintro ⟨n, hn⟩; exact absurd ⟨n, t, hn⟩ h

theorem loop_eq (b : S → Option (Lp S T)) (s : S) : loop b s = (b s).bind (Lp.elim (loop b)) := by
  apply Option.ext
  intro t
  rw [loop_some]
  constructor
  · rintro ⟨n, hn⟩
    cases n with
    | zero => cases hn
    | succ n =>
      simp only [run] at hn
      obtain ⟨x, h1, h2⟩ := Option.bind_eq_some_iff.1 hn
      rw [h1]
      cases x with
      | go s' => exact loop_some.2 ⟨n, h2⟩
      | done t' => exact h2
  · intro h
    obtain ⟨x, h1, h2⟩ := Option.bind_eq_some_iff.1 h
    cases x with
    | go s' =>
      obtain ⟨n, hn⟩ := loop_some.1 h2
      exact ⟨n + 1, by simp only [run]; rw [h1]; exact hn⟩
    | done t' => exact ⟨1, by simp only [run]; rw [h1]; exact h2⟩
end

theorem le_all {α : Type} {m : Nat} {l : List (Nat × α)} (h : l.all (fun x => Nat.ble m x.1) = true) : ∀ x ∈ l, m ≤ x.1 := fun x hx => Nat.le_of_ble_eq_true (List.all_eq_true.1 h x hx)

theorem orcE {Γ : Ctx} {fc : Code} {p i : Nat} {c0 c : Cert} (h : c0 = c) (hv : ∀ id ops draw, sub fc p = .region id ops draw → ∀ o, ops[i]? = some o → Valid Γ ops o c0) :
    ∀ id ops draw, sub fc p = .region id ops draw → ∀ o, ops[i]? = some o → Valid Γ ops o c := h ▸ hv

theorem ro_map {α : Type} {enc enc' : α → List D} (h : ∀ a, D.ro.roC (enc a) = enc' a) (xs : List α) : ∀ {off n : Nat}, off = 0 → n = xs.length → xs.map enc' = ((D.ro.roE (xs.map enc)).drop off).take n := by
  rintro _ _ rfl rfl
  have : D.ro.roE (xs.map enc) = xs.map enc' := by
    induction xs with
    | nil => rfl
    | cons x xs ih => simp only [List.map_cons, D.ro.roE, ih, h]
  rw [this, List.drop_zero, List.take_of_length_le (by simp)]

section
variable {Γ : Ctx} {fc : Code} {k : List II} {σ : St} {T U : Type} {K : T → Option (D × List Ent)}

theorem J_q {V : Type} {v : V} {w : T} {K0 : V → Option (D × List Ent)} (h : J Γ fc k σ (some v) K0) (hK : K w = K0 v) : J Γ fc k σ (some w) K := by
  intro r out he hk a wd hrel
  cases he
  exact h v out rfl (hK ▸ hk) a wd hrel

theorem J_ite {b : Bool} {x y : Option T} (h1 : b = true → J Γ fc k σ x K) (h2 : b = false → J Γ fc k σ y K) : J Γ fc k σ (if b then x else y) K := by
  cases b with
  | true => exact h1 rfl
  | false => exact h2 rfl

theorem J_bk {S : Type} {g : S → Option T} {s : S} (h : J Γ fc k σ (g s) K) : J Γ fc k σ (some (Lp.go s)) (fun x => (Lp.elim g x).bind K) :=
  J_next (q := Lp.go) (fun out ho => Option.bind_eq_some_iff.1 ho) h

theorem J_lp {S : Type} {b : S → Option (Lp S T)} {σ : S → St} (h : ∀ g : S → Option T, (∀ s, J Γ fc k (σ s) (g s) K) → ∀ s, J Γ fc k (σ s) (b s) (fun x => (Lp.elim g x).bind K)) : ∀ s, J Γ fc k (σ s) (loop b s) K := by
  have key : ∀ n s, J Γ fc k (σ s) (run b n s) K := by
    intro n
    induction n with
    | zero => exact fun s => J_none
    | succ n ih => exact fun s => J_bindK (h (run b n) ih s)
  intro s r out he hk a w hrel
  obtain ⟨n, hn⟩ := loop_some.1 he
  exact key n s r out hn hk a w hrel

theorem J_K {e : Option T} {K0 : T → Option (D × List Ent)} (h : J Γ fc k σ e K0) (hK : ∀ r, K r = K0 r) : J Γ fc k σ e K :=
  fun r out he hk => h r out he (hK r ▸ hk)

/-- What is handed back, computed. -/
def resL (P : Program) (tm : List (Nat × D)) (hp : List (Nat × Ent)) : List ResultVar → Option (List D)
  | [] => some []
  | .tmp t :: rs => match lk tm t, resL P tm hp rs with
    | some d, some ds => some (d :: ds)
    | _, _ => none
  | .cell t T :: rs => match lk tm t with
    | some (.pt q 0 j) => match lk hp q with
      | some (.box cs) => match ofCells P T (cs.drop j), resL P tm hp rs with
        | some d, some ds => some (d :: ds)
        | _, _ => none
      | _ => none
    | _ => none

theorem resL_spec {P : Program} : ∀ {rs : List ResultVar} {ds : List D}, resL P σ.tm σ.hp rs = some ds → ResFs σ P rs ds
  | [], ds, h => by simp only [resL] at h; cases h; trivial
  | .tmp t :: rs, ds, h => by
    simp only [resL] at h
    split at h
    · rename_i d ds' h1 h2; cases h; exact ⟨lk_mem h1, resL_spec h2⟩
    · cases h
  | .cell t T :: rs, ds, h => by
    simp only [resL] at h
    split at h
    · rename_i q j h1
      split at h
      · rename_i cs h2
        split at h
        · rename_i d ds' h3 h4; cases h; exact ⟨⟨q, cs, j, lk_mem h1, lk_mem h2, h3⟩, resL_spec h4⟩
        · cases h
      · cases h
    · cases h

theorem J_ret0 {v : T} {fn : Func} {rs : List ResultVar} {ds ds' : List D} {ts : List Nat} (hk : k = [] ∨ ∃ p k', k = .c p :: k' ∧ sub fc p = .ret) (hf : Γ.P.funcs[Γ.fid]? = some fn)
    (hrs : fn.results.toList = rs) (hds : resL Γ.P σ.tm σ.hp rs = some ds) (hret : Rets σ.hp ds ds' ts) (hm1 : D.men.menL ds' = [])
    (hK : K v = some (outD ds', [])) : J Γ fc k σ (some v) K :=
  J_ret hk hf hrs (resL_spec hds) hret (by simp [enumE]) (by simp) (by rw [hm1]; simp) (by simp) hK

theorem Ok_of2 {P : Program} {f : FuncId} {fn : Func} {args : List D} {hin : List Ent} {e : Option T} {g : T → D × List Ent} {nt : Nat} (hf : P.funcs[f]? = some fn) (hb : fn.body = some fc) (hnt : fn.ntmps = nt)
    (hna : args.length ≤ nt)
    (h : ∀ (w0 : World) (N0 : Nat → Prop) (O0 : List Nat) (β0 : Nat → Loc), J ⟨P, f, w0, N0, O0, hin.length, β0, nt⟩ fc [.c 1] ⟨args.zipIdx.map (fun x => (x.2, x.1)), enumE hin, D.men.menL args ++ menH (enumE hin)⟩ e (fun r => some (g r))) : Ok P f args hin (e.map g) :=
  Ok_of hf hb hnt hna (fun t ht => List.mem_append.2 ht) (fun out ho => by
    obtain ⟨r, h1, h2⟩ := Option.map_eq_some_iff.1 ho
    exact ⟨r, h1, by rw [h2]⟩) h
end

/-! ### Ghosts -/
section
variable {Γ : Ctx} {fc : Code} {k : List II} {σ : St} {T : Type} {K : T → Option (D × List Ent)}

/-- A nil slice gets a row of its own. -/
theorem J_nil {e : Option T} (t id z : Nat) (hl : lk σ.tm t = some (.sc (.slice none 0 0))) (hm : Γ.m ≤ id) (hid : σ.us.contains id = false)
    (hj : J Γ fc k ⟨(t, .rf id 0 0 none) :: σ.tm.filter (fun x => x.1 != t), (id, .row z []) :: σ.hp, id :: σ.us⟩ e K) : J Γ fc k σ e K := by
  refine J_weak (fun a w hr => ?_) hj
  obtain ⟨h0, β, bs, h⟩ := hr
  have hidu : id ∉ σ.us := by simpa using hid
  have hmT : ∀ x ∈ σ.tm, ∀ t' ∈ x.2.men, t' ≠ id := fun x hx t' ht' e => hidu (e ▸ h0 t' (.inl (List.mem_flatMap.2 ⟨x, hx, ht'⟩)))
  have hmH : ∀ t' ∈ menH σ.hp, t' ≠ id := fun t' ht' e => hidu (e ▸ h0 t' (.inr ht'))
  refine ⟨?_, updB β id ⟨true, 0, 0, z, 0⟩, bs, ?_⟩
  · intro t' ht'
    rcases ht' with ht' | ht'
    · simp only [menT, List.flatMap_cons, D.men, List.mem_append, List.mem_singleton] at ht'
      rcases ht' with rfl | ht'
      · simp
      · obtain ⟨x, hx, hx'⟩ := List.mem_flatMap.1 ht'
        exact List.mem_cons_of_mem _ (h0 t' (.inl (List.mem_flatMap.2 ⟨x, (List.mem_filter.1 hx).1, hx'⟩)))
    · simp only [menH, List.flatMap_cons, Ent.men, List.mem_append, List.mem_singleton] at ht'
      rcases ht' with rfl | ht'
      · simp
      · exact List.mem_cons_of_mem _ (h0 t' (.inr ht'))
  · refine { defers := h.defers, size := h.size, keys := ?_, par := fun k' hk' => ?_, grow := h.grow, gh := h.gh, quiet := h.quiet, keep := h.keep, hp := ?_, nodup := h.nodup, own := h.own, tm := ?_ }
    · simp only [List.map_cons, List.nodup_cons]
      refine ⟨fun hin => ?_, h.keys⟩
      obtain ⟨x, hx, hx'⟩ := List.mem_map.1 hin
      exact hmH x.1 (List.mem_flatMap.2 ⟨x, hx, by simp⟩) hx'
    · rw [updB_ne (by omega)]; exact h.par k' hk'
    · refine ⟨[], bs, by simp [updB_self, Loc.own], ?_, ?_⟩
      · rw [updB_self]; exact ⟨rfl, by simp, .inl ⟨rfl, rfl, rfl⟩⟩
      · exact HRep.frame (fun b hb => ⟨hb, rfl⟩) _ _ (fun _ _ => rfl) (fun t' ht' => updB_ne (hmH t' ht')) h.hp
    · intro t' d hd
      rcases List.mem_cons.1 hd with hd | hd
      · cases hd
        obtain ⟨v, h1, h2⟩ := h.tm t _ (lk_mem hl)
        refine ⟨v, h1, ?_⟩
        simp only [Rep] at h2 ⊢
        rw [updB_self]
        exact ⟨trivial, trivial, .inl ⟨rfl, trivial, trivial, h2.1⟩⟩
      · have hd' := (List.mem_filter.1 hd).1
        obtain ⟨v, h1, h2⟩ := h.tm t' d hd'
        exact ⟨v, h1, Rep.frame (fun b hb => ⟨hb, rfl⟩) d true v [] (by simp) (fun q hq => updB_ne (hmT _ hd' q hq)) h2⟩

/-! Other names for what is owned. -/
def D.ren (f : Nat → Nat) : D → D
  | .rf t off n cap => .rf (f t) off n cap
  | .pt t i j => .pt (f t) i j
  | .sub t i j => .sub (f t) i j
  | .fn g caps => .fn g (renL f caps)
  | .fb g caps => .fb g (renL f caps)
  | .ag cs => .ag (renL f cs)
  | .tu cs => .tu (renL f cs)
  | d => d
  where
  renL (f : Nat → Nat) : List D → List D
    | [] => []
    | d :: ds => d.ren f :: renL f ds

section
variable {β β' : Nat → Loc} {N : Nat → Prop} {w : World} {f : Nat → Nat}
mutual
theorem Rep.ren (hβ : ∀ t, β' (f t) = β t) : ∀ (d : D) (v : Value) (bs : List Nat), Rep β N w true d v bs → Rep β' N w true (d.ren f) v bs
  | .sc u, v, bs, h => by simpa only [Rep, D.ren] using h
  | .s o z n xs, v, bs, h => Rep.frame (β' := β') (fun b hb => ⟨hb, rfl⟩) (.s o z n xs) true v bs (fun _ _ => rfl) (by simp [D.men]) h
  | .rf t off n cap, v, bs, h => by simp only [Rep, D.ren] at h ⊢; rw [hβ]; exact h
  | .pt t i j, v, bs, h => by simp only [Rep, D.ren] at h ⊢; rw [hβ]; exact h
  | .ps cs, v, bs, h => Rep.frame (β' := β') (fun b hb => ⟨hb, rfl⟩) (.ps cs) true v bs (fun _ _ => rfl) (by simp [D.men]) h
  | .fn g caps, v, bs, h => by
    simp only [Rep, D.ren] at h ⊢
    obtain ⟨h1, h2, ws, h3, h4⟩ := h
    exact ⟨h1, h2, ws, h3, RepCs.ren hβ caps ws [] h4⟩
  | .fb g caps, v, bs, h => by
    simp only [Rep, D.ren] at h ⊢
    obtain ⟨h1, h2, ws, h3, h4⟩ := h
    exact ⟨h1, h2, ws, h3, RepCs.ren hβ caps ws [] h4⟩
  | .ag cs, v, bs, h => by
    simp only [Rep, D.ren] at h ⊢
    obtain ⟨h1, ws, h2, h3, h4⟩ := h
    exact ⟨h1, ws, h2, h3, RepCs.ren hβ cs ws bs h4⟩
  | .tu cs, v, bs, h => by
    simp only [Rep, D.ren] at h ⊢
    obtain ⟨h1, ws, h2, h4⟩ := h
    exact ⟨h1, ws, h2, RepCs.ren hβ cs ws bs h4⟩
  | .un, v, bs, h => by simpa only [Rep, D.ren] using h
  | .nb _, v, bs, h => by simpa only [Rep, D.ren] using h
  | .sub t off n, v, bs, h => by simp only [Rep, D.ren] at h ⊢; rw [hβ]; exact h
theorem RepCs.ren (hβ : ∀ t, β' (f t) = β t) : ∀ (ds : List D) (ws : List Value) (bs : List Nat), RepCs β N w true ds ws bs → RepCs β' N w true (D.ren.renL f ds) ws bs
  | [], ws, bs, h => by simpa only [RepCs, D.ren.renL] using h
  | d :: ds, ws, bs, h => by
    simp only [RepCs, D.ren.renL] at h ⊢
    obtain ⟨v, vs, b1, b2, h1, h2, h3, h4⟩ := h
    exact ⟨v, vs, b1, b2, h1, h2, Rep.ren hβ d v b1 h3, RepCs.ren hβ ds vs b2 h4⟩
end

def Ent.ren (f : Nat → Nat) : Ent → Ent
  | .box cs => .box (D.ren.renL f cs)
  | .row z xs => .row z xs
  | .lent z xs i j t n => .lent z xs i j (f t) n

theorem EntRep.ren (hβ : ∀ t, β' (f t) = β t) {L : Loc} {bs : List Nat} : ∀ {e : Ent}, EntRep β N w L bs e → EntRep β' N w L bs (e.ren f)
  | .box cs, h => by
    obtain ⟨h0, h1, ws, h2, h3, h4⟩ := h
    have : (D.ren.renL f cs).length = cs.length := by
      clear h1 h2 h3 h4
      induction cs with
      | nil => rfl
      | cons c cs ih => simp [D.ren.renL, ih]
    exact ⟨h0, by rw [this]; exact h1, ws, h2, h3, RepCs.ren hβ cs ws bs h4⟩
  | .row z xs, h => EntRep.frame (e := .row z xs) (fun b hb => ⟨hb, rfl⟩) (fun _ _ => rfl) (fun _ => rfl) (by simp [Ent.men]) h
  | .lent z xs i j t n, h => by
    obtain ⟨h0, h1, h2, ws, h3, h4, v, h5, h6⟩ := h
    refine ⟨h0, h1, h2, ws, h3, RepEs.frame (fun b hb => ⟨hb, rfl⟩) _ _ _ (fun _ _ => rfl) h4, v, h5, ?_⟩
    have := Rep.ren (β' := β') hβ _ _ _ h6
    simpa only [D.ren] using this

theorem HRep.ren (hβ : ∀ t, β' (f t) = β t) : ∀ {hp : List (Nat × Ent)} {bs : List Nat}, HRep β N w hp bs → HRep β' N w (hp.map (fun x => (f x.1, x.2.ren f))) bs
  | [], bs, h => h
  | (t, e) :: hp, bs, h => by
    obtain ⟨b1, b2, h1, h2, h3⟩ := h
    refine ⟨b1, b2, by simp only [hβ]; exact h1, ?_, HRep.ren hβ h3⟩
    simp only [hβ]
    exact EntRep.ren hβ h2
end

def swp (a b x : Nat) : Nat := if x = a then b else if x = b then a else x

theorem swp_swp (a b x : Nat) : swp a b (swp a b x) = x := by
  unfold swp
  split
  · subst_vars
    split
    · rename_i h; exact h
    · simp
  · split
    · subst_vars; simp
    · simp [*]

mutual
theorem D.ren_men (f : Nat → Nat) : ∀ (d : D), (d.ren f).men = d.men.map f
  | .sc _ => rfl
  | .s _ _ _ _ => rfl
  | .rf _ _ _ _ => rfl
  | .pt _ _ _ => rfl
  | .ps _ => rfl
  | .fn _ cs => by simp only [D.ren, D.men]; exact renL_men f cs
  | .fb _ cs => by simp only [D.ren, D.men]; exact renL_men f cs
  | .ag cs => by simp only [D.ren, D.men]; exact renL_men f cs
  | .tu cs => by simp only [D.ren, D.men]; exact renL_men f cs
  | .un => rfl
  | .nb _ => rfl
  | .sub _ _ _ => rfl
theorem renL_men (f : Nat → Nat) : ∀ (ds : List D), D.men.menL (D.ren.renL f ds) = (D.men.menL ds).map f
  | [] => rfl
  | d :: ds => by simp only [D.ren.renL, D.men.menL, List.map_append, D.ren_men f d, renL_men f ds]
end

theorem Ent.ren_men (f : Nat → Nat) (e : Ent) : (e.ren f).men = e.men.map f := by
  cases e with
  | box cs => exact renL_men f cs
  | row z xs => rfl
  | lent z xs i j t n => rfl

/-- Two names change places. -/
theorem J_ren {e : Option T} (a b : Nat) (ha : Γ.m ≤ a) (hb : Γ.m ≤ b)
    (hj : J Γ fc k ⟨σ.tm.map (fun x => (x.1, x.2.ren (swp a b))), σ.hp.map (fun x => (swp a b x.1, x.2.ren (swp a b))), σ.us.map (swp a b)⟩ e K) : J Γ fc k σ e K := by
  refine J_weak (fun ac w hr => ?_) hj
  obtain ⟨h0, β, bs, h⟩ := hr
  have hβ : ∀ t, (fun x => β (swp a b x)) (swp a b t) = β t := fun t => by simp only [swp_swp]
  refine ⟨?_, fun x => β (swp a b x), bs, ?_⟩
  · intro t ht
    have key : ∃ t', t = swp a b t' ∧ (t' ∈ menT σ.tm ∨ t' ∈ menH σ.hp) := by
      rcases ht with ht | ht
      · obtain ⟨x, hx, hx'⟩ := List.mem_flatMap.1 ht
        obtain ⟨y, hy, rfl⟩ := List.mem_map.1 hx
        simp only [D.ren_men] at hx'
        obtain ⟨t', ht', rfl⟩ := List.mem_map.1 hx'
        exact ⟨t', rfl, .inl (List.mem_flatMap.2 ⟨y, hy, ht'⟩)⟩
      · obtain ⟨x, hx, hx'⟩ := List.mem_flatMap.1 ht
        obtain ⟨y, hy, rfl⟩ := List.mem_map.1 hx
        rcases List.mem_cons.1 hx' with rfl | hx'
        · exact ⟨y.1, rfl, .inr (List.mem_flatMap.2 ⟨y, hy, by simp⟩)⟩
        · simp only [Ent.ren_men] at hx'
          obtain ⟨t', ht', rfl⟩ := List.mem_map.1 hx'
          exact ⟨t', rfl, .inr (List.mem_flatMap.2 ⟨y, hy, by simp [ht']⟩)⟩
    obtain ⟨t', rfl, ht'⟩ := key
    exact List.mem_map.2 ⟨t', h0 t' ht', rfl⟩
  · refine { defers := h.defers, size := h.size, keys := ?_, par := fun k' hk' => ?_, grow := h.grow, gh := h.gh, quiet := h.quiet, keep := h.keep, hp := HRep.ren (β' := fun x => β (swp a b x)) hβ h.hp, nodup := h.nodup, own := h.own, tm := ?_ }
    · rw [List.map_map]
      have e1 : (σ.hp.map ((fun x : Nat × Ent => x.1) ∘ fun x : Nat × Ent => (swp a b x.1, x.2.ren (swp a b)))) = (σ.hp.map (·.1)).map (swp a b) := by rw [List.map_map]; rfl
      rw [e1]
      refine List.Pairwise.map _ ?_ h.keys
      intro x y hxy hxy'
      apply hxy
      have := congrArg (swp a b) hxy'
      rwa [swp_swp, swp_swp] at this
    · have e2 : swp a b k' = k' := by unfold swp; rw [if_neg (by omega), if_neg (by omega)]
      simp only [e2]
      exact h.par k' hk'
    · intro t d hd
      obtain ⟨x, hx, hx'⟩ := List.mem_map.1 hd
      cases hx'
      obtain ⟨v, h1, h2⟩ := h.tm x.1 x.2 hx
      exact ⟨v, h1, Rep.ren (β' := fun x => β (swp a b x)) hβ _ _ _ h2⟩
end
end Go.Im

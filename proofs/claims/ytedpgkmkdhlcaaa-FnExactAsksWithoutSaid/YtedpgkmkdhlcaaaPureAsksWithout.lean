import Derived.Test.YtedpgkmkdhlcaaaToldAsksWithout
set_option linter.unusedVariables false
set_option maxRecDepth 4000
namespace Go.Told
open Go Go.Im

/-! ### Loops and lists in general -/
theorem loop_congr {S T : Type} {b b' : S → Option (Lp S T)} (h : ∀ s, b s = b' s) : loop b = loop b' := by
  have : b = b' := funext h
  rw [this]

theorem w64_of {x : Int} (h1 : -9223372036854775808 ≤ x) (h2 : x ≤ 9223372036854775807) : w64 x = x := by
  unfold w64
  rw [IntKind.wrap_i64]
  omega

theorem w64_nat {i : Nat} (h : i < 9223372036854775807) : w64 ((i : Int) + 1) = ((i + 1 : Nat) : Int) := by
  rw [w64_of (by omega) (by omega)]; omega

/-- Going through a list from the front. -/
theorem loop_up {T : Type} {S : Type} {b : S → Option (Lp S T)} (I : Nat → S → Prop) (n : Nat) (Q : T → Prop) (hstep : ∀ i s, i < n → I i s → (∃ s', b s = some (.go s') ∧ I (i + 1) s') ∨ ∃ t, b s = some (.done t) ∧ Q t)
    (hend : ∀ s, I n s → ∃ t, b s = some (.done t) ∧ Q t) : ∀ (k i : Nat) (s : S), i + k = n → I i s → ∃ t, loop b s = some t ∧ Q t
  | 0, i, s, hk, hI => by
    obtain ⟨t, h1, h2⟩ := hend s (by rw [show n = i by omega]; exact hI)
    exact ⟨t, by rw [loop_eq, h1]; rfl, h2⟩
  | k + 1, i, s, hk, hI => by
    rcases hstep i s (by omega) hI with ⟨s', h1, h2⟩ | ⟨t, h1, h2⟩
    · obtain ⟨t, h3, h4⟩ := loop_up I n Q hstep hend k (i + 1) s' (by omega) h2
      exact ⟨t, by rw [loop_eq, h1]; exact h3, h4⟩
    · exact ⟨t, by rw [loop_eq, h1]; rfl, h2⟩

theorem idx_nat {α : Type} {xs : List α} {i : Nat} (h : i < xs.length) : idx xs (i : Int) = some xs[i] := by
  unfold idx
  rw [if_pos (by omega)]
  simp [h]

theorem idx_append {α : Type} (l r : List α) (x : α) : idx (l ++ x :: r) (l.length : Int) = some x := by
  rw [idx_nat (by simp)]
  simp

/-- What a walk over a list comes to. -/
def goL {α A T : Type} (g : Nat → A → α → Lp A T) (fin : A → T) : Nat → List α → A → T
  | _, [], a => fin a
  | i, x :: xs, a => match g i a x with
    | .go a' => goL g fin (i + 1) xs a'
    | .done t => t

theorem loop_goL {α A S T : Type} (xs : List α) (g : Nat → A → α → Lp A T) (fin : A → T) (e : Nat → A → S) (I : Nat → A → Prop) {b : S → Option (Lp S T)}
    (hstep : ∀ (i : Nat) (a : A) (hi : i < xs.length), I i a → b (e i a) = some (match g i a xs[i] with | .go a' => .go (e (i + 1) a') | .done t => .done t) ∧ ∀ a', g i a xs[i] = .go a' → I (i + 1) a')
    (hend : ∀ a, I xs.length a → b (e xs.length a) = some (.done (fin a))) : ∀ (k i : Nat) (a : A), i + k = xs.length → I i a → loop b (e i a) = some (goL g fin i (xs.drop i) a)
  | 0, i, a, hk, hI => by
    have : i = xs.length := by omega
    subst this
    rw [loop_eq, hend a hI, List.drop_length]; rfl
  | k + 1, i, a, hk, hI => by
    have hi : i < xs.length := by omega
    obtain ⟨h1, h2⟩ := hstep i a hi hI
    rw [loop_eq, h1, List.drop_eq_getElem_cons hi]
    simp only [goL]
    cases hg : g i a xs[i] with
    | go a' =>
      simp only [Option.bind_some, Lp.elim]
      exact loop_goL xs g fin e I hstep hend k (i + 1) a' (by omega) (h2 a' hg)
    | done t => rfl

theorem loop_list {α A S T : Type} (xs : List α) (g : Nat → A → α → Lp A T) (fin : A → T) (e : Nat → A → S) (I : Nat → A → Prop) {b : S → Option (Lp S T)} (a0 : A)
    (hstep : ∀ (i : Nat) (a : A) (hi : i < xs.length), I i a → b (e i a) = some (match g i a xs[i] with | .go a' => .go (e (i + 1) a') | .done t => .done t) ∧ ∀ a', g i a xs[i] = .go a' → I (i + 1) a')
    (hend : ∀ a, I xs.length a → b (e xs.length a) = some (.done (fin a))) (h0 : I 0 a0) : loop b (e 0 a0) = some (goL g fin 0 xs a0) := by
  have := loop_goL xs g fin e I hstep hend xs.length 0 a0 (by omega) h0
  simpa using this

/-- A list that is copied element by element. -/
theorem to_loop {α : Type} (xs : List α) {b : (List α × Int) → Option (Lp (List α × Int) (List α))} (hstep : ∀ (ys : List α) (i : Nat) (hi : i < xs.length), ys.length = xs.length → b (ys, (i : Int)) = some (.go (ys.set i xs[i], ((i + 1 : Nat) : Int))))
    (hend : ∀ ys : List α, ys.length = xs.length → b (ys, (xs.length : Int)) = some (.done ys)) (y0 : List α) (h0 : y0.length = xs.length) : loop b (y0, 0) = some xs := by
  obtain ⟨t, h1, h2⟩ := loop_up (b := b) (fun i s => s.2 = (i : Int) ∧ s.1.length = xs.length ∧ s.1.take i = xs.take i) xs.length (fun t => t = xs) (by
    rintro i ⟨ys, j⟩ hi ⟨hj, hl, hp⟩
    simp only at hj hl hp
    subst hj
    refine .inl ⟨_, hstep ys i hi hl, rfl, by simpa using hl, ?_⟩
    simp only
    rw [List.take_succ_eq_append_getElem (by simp; omega), List.take_succ_eq_append_getElem hi, ← hp, List.take_set_of_le (Nat.le_refl _)]
    simp) (by
    rintro ⟨ys, j⟩ ⟨hj, hl, hp⟩
    simp only at hj hl hp
    subst hj
    refine ⟨ys, hend ys hl, ?_⟩
    rw [List.take_of_length_le (by omega), List.take_of_length_le (by omega)] at hp
    exact hp) xs.length 0 (y0, 0) (by omega) ⟨rfl, h0, by simp⟩
  rw [h1, h2]

/-- Two lists held against each other that are one. -/
theorem eq_loop {R : Type} (n : Nat) {b : Int → Option (Lp Int (Fl R Unit))} (hstep : ∀ i : Nat, i < n → b (i : Int) = some (.go ((i + 1 : Nat) : Int))) (hend : b (n : Int) = some (.done (.nxt ()))) : loop b 0 = some (.nxt ()) := by
  obtain ⟨t, h1, h2⟩ := loop_up (b := b) (fun i s => s = (i : Int)) n (fun t => t = .nxt ()) (by
    rintro i s hi rfl
    exact .inl ⟨_, hstep i hi, rfl⟩) (by
    rintro s rfl
    exact ⟨_, hend, rfl⟩) n 0 0 (by omega) rfl
  rw [h1, h2]

/-- What is left of a size. -/
theorem sz_loop {α : Type} (xs : List α) (P : α → Prop) (l : Int) {b : (Int × Int) → Option (Lp (Int × Int) (Fl Int Int))}
    (hstep : ∀ (q : Int) (i : Nat) (hi : i < xs.length), 0 ≤ q → q ≤ l → (∃ q', b (q, (i : Int)) = some (.go (q', ((i + 1 : Nat) : Int))) ∧ 0 ≤ q' ∧ q' ≤ q ∧ P xs[i]) ∨ ∃ t, b (q, (i : Int)) = some (.done (.ret t)) ∧ t < 0)
    (hend : ∀ q : Int, b (q, (xs.length : Int)) = some (.done (.nxt q))) (h0 : 0 ≤ l) :
    ∃ t, loop b (l, 0) = some t ∧ match t with | .ret r => r < 0 | .nxt r => 0 ≤ r ∧ r ≤ l ∧ ∀ x ∈ xs, P x := by
  refine loop_up (b := b) (fun i s => s.2 = (i : Int) ∧ 0 ≤ s.1 ∧ s.1 ≤ l ∧ ∀ j, (hj : j < xs.length) → j < i → P xs[j]) xs.length _ (by
    rintro i ⟨q, j⟩ hi ⟨hj, h1, h2, h3⟩
    simp only at hj h1 h2 h3
    subst hj
    rcases hstep q i hi h1 h2 with ⟨q', e, g1, g2, g3⟩ | ⟨t, e, ht⟩
    · refine .inl ⟨_, e, rfl, g1, by simp only; omega, fun j hj hji => ?_⟩
      rcases Nat.lt_or_ge j i with h | h
      · exact h3 j hj h
      · have : j = i := by omega
        subst this; exact g3
    · exact .inr ⟨_, e, ht⟩) (by
    rintro ⟨q, j⟩ ⟨hj, h1, h2, h3⟩
    simp only at hj h1 h2 h3
    subst hj
    refine ⟨_, hend q, h1, h2, fun x hx => ?_⟩
    obtain ⟨j, hj, rfl⟩ := List.getElem_of_mem hx
    exact h3 j hj hj) xs.length 0 (l, 0) (by omega) ⟨rfl, h0, Int.le_refl _, fun j _ h => by omega⟩

/-! ### Marks -/
def pm {α : Type} (m : α → Int → α) (c : α → Int) : List α → Int → List α
  | [], _ => []
  | x :: xs, k => m x k :: pm m c xs (k + c x)

def cs {α : Type} (c : α → Int) : List α → Int
  | [] => 0
  | x :: xs => c x + cs c xs

theorem pm_length {α : Type} (m : α → Int → α) (c : α → Int) : ∀ (xs : List α) (k : Int), (pm m c xs k).length = xs.length
  | [], _ => rfl
  | x :: xs, k => by simp [pm, pm_length m c xs]

theorem cs_nonneg {α : Type} {c : α → Int} (hc : ∀ a, 0 ≤ c a) : ∀ (xs : List α), 0 ≤ cs c xs
  | [] => Int.le_refl _
  | x :: xs => by have := hc x; have := cs_nonneg hc xs; simp only [cs]; omega

theorem cs_le {α : Type} {c : α → Int} {C : Int} {N : Nat} (hC : 0 ≤ C) : ∀ (xs : List α), (∀ a ∈ xs, c a ≤ C) → xs.length ≤ N → cs c xs ≤ N * C
  | [], _, _ => Int.mul_nonneg (by omega) hC
  | x :: xs, h, hl => by
    have h1 := h x (by simp)
    simp only [List.length_cons] at hl
    have h2 := cs_le (N := N - 1) hC xs (fun a ha => h a (by simp [ha])) (by omega)
    simp only [cs]
    have : ((N - 1 : Nat) : Int) * C + C = N * C := by
      have e : ((N - 1 : Nat) : Int) = (N : Int) - 1 := by omega
      rw [e, Int.sub_mul, Int.one_mul]; omega
    omega

theorem mark_loop {α : Type} (m : α → Int → α) (c : α → Int) (P : α → Prop) (hc : ∀ a, 0 ≤ c a) {b : (List α × Int × Int) → Option (Lp (List α × Int × Int) (List α × Int))}
    (hstep : ∀ (l r : List α) (x : α) (k : Int), P x → 0 ≤ k → k + c x ≤ 9223372036854775807 → l.length < 9223372036854775807 → b (l ++ x :: r, k, (l.length : Int)) = some (.go (l ++ m x k :: r, k + c x, ((l.length + 1 : Nat) : Int))))
    (hend : ∀ (l : List α) (k : Int), b (l, k, (l.length : Int)) = some (.done (l, k))) : ∀ (xs l : List α) (k : Int), (∀ x ∈ xs, P x) → 0 ≤ k → k + cs c xs ≤ 9223372036854775807 → l.length + xs.length < 9223372036854775807 →
    loop b (l ++ xs, k, (l.length : Int)) = some (l ++ pm m c xs k, k + cs c xs)
  | [], l, k, _, _, _, _ => by
    rw [loop_eq, List.append_nil, hend]
    simp [pm, cs, Lp.elim]
  | x :: xs, l, k, hP, h0, h1, h2 => by
    have hx := hc x
    have hxs := cs_nonneg hc xs
    simp only [cs] at h1
    simp only [List.length_cons] at h2
    rw [loop_eq, hstep l xs x k (hP x (by simp)) h0 (by omega) (by omega)]
    simp only [Option.bind_some, Lp.elim]
    have := mark_loop m c P hc hstep hend xs (l ++ [m x k]) (k + c x) (fun y hy => hP y (by simp [hy])) (by omega) (by omega) (by simp; omega)
    simp only [List.length_append, List.length_cons, List.length_nil, List.append_assoc, List.cons_append, List.nil_append] at this
    rw [this]
    simp only [pm, cs]
    congr 2
    omega

theorem held_loop {α : Type} (m : α → Int → α) (c : α → Int) (P : α → Prop) (hc : ∀ a, 0 ≤ c a) {b : List α → (Int × Int) → Option (Lp (Int × Int) (Fl Int Int))}
    (hstep : ∀ (l r : List α) (x : α) (k : Int), P x → 0 ≤ k → k + c x ≤ 9223372036854775807 → l.length < 9223372036854775807 → b (l ++ m x k :: r) (k, (l.length : Int)) = some (.go (k + c x, ((l.length + 1 : Nat) : Int))))
    (hend : ∀ (l : List α) (k : Int), b l (k, (l.length : Int)) = some (.done (.nxt k))) : ∀ (xs l : List α) (k : Int), (∀ x ∈ xs, P x) → 0 ≤ k → k + cs c xs ≤ 9223372036854775807 → l.length + xs.length < 9223372036854775807 →
    loop (b (l ++ pm m c xs k)) (k, (l.length : Int)) = some (.nxt (k + cs c xs))
  | [], l, k, _, _, _, _ => by
    rw [loop_eq, pm, List.append_nil, hend]
    simp [cs, Lp.elim]
  | x :: xs, l, k, hP, h0, h1, h2 => by
    have hx := hc x
    have hxs := cs_nonneg hc xs
    simp only [cs] at h1
    simp only [List.length_cons] at h2
    rw [pm, loop_eq, hstep l _ x k (hP x (by simp)) h0 (by omega) (by omega)]
    simp only [Option.bind_some, Lp.elim]
    have := held_loop m c P hc hstep hend xs (l ++ [m x k]) (k + c x) (fun y hy => hP y (by simp [hy])) (by omega) (by omega) (by simp; omega)
    simp only [List.length_append, List.length_cons, List.length_nil, List.append_assoc, List.cons_append, List.nil_append] at this
    rw [this]
    simp only [cs]
    congr 2
    omega

theorem same_of {α β : Type} {xs : List α} {ys : List β} (h : xs.length = ys.length) : same xs ys = some () := if_pos h

theorem set_app {α : Type} (l r : List α) (x y : α) : (l ++ x :: r).set l.length y = l ++ y :: r := by
  rw [List.set_append_right _ _ (Nat.le_refl _)]
  simp

theorem seq_self (a : ByteArray) : seq a a = true := by
  unfold seq
  simp

/-- One mark. -/
def c1 {α : Type} (_ : α) : Int := 1
theorem c1_nonneg {α : Type} (a : α) : 0 ≤ c1 a := by unfold c1; decide

theorem app_of {α : Type} {B : Nat} {xs ys : List α} (h : (xs.length + ys.length) * B ≤ 140737488355328) (h2 : xs.length + ys.length ≤ 4611686018427387904) : app B xs ys = some (xs ++ ys) := if_pos ⟨h, h2⟩

theorem loop_meas {S T : Type} {b : S → Option (Lp S T)} (I : S → Prop) (μ : S → Nat) (Q : T → Prop) (step : ∀ s, I s → (∃ s', b s = some (.go s') ∧ I s' ∧ μ s' < μ s) ∨ ∃ t, b s = some (.done t) ∧ Q t) : ∀ (n : Nat) (s : S), μ s ≤ n → I s → ∃ t, loop b s = some t ∧ Q t
  | 0, s, hn, hI => by
    rcases step s hI with ⟨s', _, _, h3⟩ | ⟨t, h1, h2⟩
    · omega
    · exact ⟨t, by rw [loop_eq, h1]; rfl, h2⟩
  | n + 1, s, hn, hI => by
    rcases step s hI with ⟨s', h1, h2, h3⟩ | ⟨t, h1, h2⟩
    · obtain ⟨t, h4, h5⟩ := loop_meas I μ Q step n s' (by omega) h2
      exact ⟨t, by rw [loop_eq, h1]; exact h4, h5⟩
    · exact ⟨t, by rw [loop_eq, h1]; rfl, h2⟩
def Version.ok (x : Version) : Prop := (IntKind.i64.min ≤ x.A ∧ x.A ≤ IntKind.i64.max) ∧ (IntKind.i64.min ≤ x.B ∧ x.B ≤ IntKind.i64.max) ∧ (IntKind.i64.min ≤ x.C ∧ x.C ≤ IntKind.i64.max)

def Term.ok (x : Term) : Prop := (x.Name.size ≤ maxLen) ∧ (Version.ok x.Low) ∧ (Version.ok x.High)

def Version.sm (B : Nat) (x : Version) : Prop := (True) ∧ (True) ∧ (True)

def Term.sm (B : Nat) (x : Term) : Prop := (x.Name.size ≤ B) ∧ (Version.sm B x.Low) ∧ (Version.sm B x.High)

theorem szTerm_ok (x : Term) (hx : Term.ok x) (l : Int) (h0 : 0 ≤ l) (h1 : l ≤ 1048576) : ∃ r, laws_szTerm x l = some r ∧ (r < 0 ∨ (0 ≤ r ∧ r ≤ l ∧ (Term.sm 1048576 x))) := by
  obtain ⟨k0, k1, k2⟩ := hx
  unfold maxLen at *
  unfold laws_szTerm
  rw [w64_of (x := l - x.Name.size) (by omega) (by omega)]
  by_cases c0 : l - (x.Name.size : Int) < 0
  · rw [if_pos (by simpa using c0)]
    exact ⟨_, rfl, .inl (by omega)⟩
  rw [if_neg (by simpa using c0)]
  exact ⟨_, rfl, .inr ⟨by omega, by omega, by omega, ⟨trivial, trivial, trivial⟩, ⟨trivial, trivial, trivial⟩⟩⟩

theorem szTermS_ok (x : (List Term)) (hx : x.length ≤ maxLen ∧ ∀ y1 ∈ x, Term.ok y1) (l : Int) (h0 : 0 ≤ l) (h1 : l ≤ 1048576) : ∃ r, laws_szTermS x l = some r ∧ (r < 0 ∨ (0 ≤ r ∧ r ≤ l ∧ (x.length ≤ 1048576 ∧ ∀ y0 ∈ x, Term.sm 1048576 y0))) := by
  obtain ⟨hm, hx⟩ := hx
  unfold maxLen at hm
  unfold laws_szTermS
  rw [w64_of (x := l - x.length) (by omega) (by omega)]
  by_cases c1 : l - (x.length : Int) < 0
  · rw [if_pos (by simpa using c1)]
    exact ⟨_, rfl, .inl (by omega)⟩
  · rw [if_neg (by simpa using c1)]
    have key := sz_loop x (fun y0 => Term.sm 1048576 y0) (l - x.length) (b := laws_szTermS_l1b x) ?_ ?_ (by omega)
    · obtain ⟨t, h2, h3⟩ := key
      unfold laws_szTermS_l1
      rw [h2]
      cases t with
      | ret r => exact ⟨r, rfl, .inl h3⟩
      | nxt r => exact ⟨r, rfl, .inr ⟨h3.1, by have := h3.2.1; omega, by omega, h3.2.2⟩⟩
    · intro q i hi hq0 hq1
      unfold laws_szTermS_l1b
      rw [if_pos (by simp; omega)]
      simp only [idx_nat hi, Option.bind_some]
      have hi2 : w64 ((i : Int) + 1) = ((i + 1 : Nat) : Int) := w64_nat (by omega)
      obtain ⟨r, e, hr⟩ := szTerm_ok x[i] (hx _ (List.getElem_mem hi)) q hq0 (by omega)
      rw [e]
      simp only [Option.bind_some]
      by_cases c : r < 0
      · rw [if_pos (by simpa using c)]
        exact .inr ⟨_, rfl, by omega⟩
      · rw [if_neg (by simpa using c), hi2]
        obtain ⟨g1, g2, g3⟩ := hr.resolve_left c
        exact .inl ⟨_, rfl, g1, g2, g3⟩
    · intro q
      unfold laws_szTermS_l1b
      rw [if_neg (by simp)]

theorem toVersion_eq (x : Version) (hx : Version.sm 1049600 x) : laws_toVersion x = some x := by
  obtain ⟨h0, h1, h2⟩ := hx
  unfold laws_toVersion
  rfl

theorem toTerm_eq (x : Term) (hx : Term.sm 1049600 x) : laws_toTerm x = some x := by
  obtain ⟨h0, h1, h2⟩ := hx
  unfold laws_toTerm
  simp only [toVersion_eq x.Low h1, toVersion_eq x.High h2, Option.bind_some]

theorem toTermS_eq (x : (List Term)) (hx : x.length ≤ 1049600 ∧ ∀ y0 ∈ x, Term.sm 1049600 y0) : laws_toTermS x = some x := by
  have hl := hx.1
  unfold laws_toTermS
  have hm : ∀ z : Term, mk 64 (x.length : Int) z = some (List.replicate x.length z) := fun z => by
    unfold mk; rw [if_pos ⟨by omega, by simp; omega, by omega⟩]; simp
  rw [hm]
  simp only [Option.bind_some, laws_toTermS_l1]
  rw [to_loop x ?_ ?_ _ (by simp)]
  · rfl
  · intro ys i hi hl2
    unfold laws_toTermS_l1b
    rw [if_pos (by simp; omega)]
    have hi2 : w64 ((i : Int) + 1) = ((i + 1 : Nat) : Int) := w64_nat (by omega)
    simp only [idx_nat hi, idx_nat (show i < ys.length by omega), Option.bind_some, Int.toNat_natCast, hi2, toTerm_eq x[i] (hx.2 _ (List.getElem_mem hi))]
  · intro ys _
    unfold laws_toTermS_l1b
    rw [if_neg (by simp)]

theorem eqVersion_self (x : Version) (hx : Version.sm 1049600 x) : laws_eqVersion x x = some true := by
  obtain ⟨h0, h1, h2⟩ := hx
  unfold laws_eqVersion
  simp

theorem eqTerm_self (x : Term) (hx : Term.sm 1049600 x) : laws_eqTerm x x = some true := by
  obtain ⟨h0, h1, h2⟩ := hx
  unfold laws_eqTerm
  simp [eqVersion_self x.Low h1, eqVersion_self x.High h2]

theorem eqTermS_self (x : (List Term)) (hx : x.length ≤ 1049600 ∧ ∀ y0 ∈ x, Term.sm 1049600 y0) : laws_eqTermS x x = some true := by
  have hl := hx.1
  unfold laws_eqTermS
  rw [if_neg (by simp)]
  unfold laws_eqTermS_l1
  rw [eq_loop x.length ?_ ?_]
  · rfl
  · intro i hi
    unfold laws_eqTermS_l1b
    rw [if_pos (by simp; omega)]
    have hi2 : w64 ((i : Int) + 1) = ((i + 1 : Nat) : Int) := w64_nat (by omega)
    simp [idx_nat hi, hi2, eqTerm_self x[i] (hx.2 _ (List.getElem_mem hi))]
  · unfold laws_eqTermS_l1b
    rw [if_neg (by simp)]

theorem b2s_size1 (a : Int) : (b2s [a]).size = 1 := rfl

theorem markText_some {k : Int} (h0 : 0 ≤ k) (h1 : k ≤ 9223372036854775807) : ∃ s, laws_markText k = some s := by
  have key : ∀ (n : Nat) (k : Int) (s : ByteArray), 0 ≤ k → k < 10 ^ n → k ≤ 9223372036854775807 → s.size + n ≤ 1000 → ∃ t, loop laws_markText_l1b (k, s) = some t ∧ t.size ≤ s.size + n := by
    intro n
    induction n with
    | zero =>
      intro k s h0 h1 _ _
      have : k = 0 := by simp at h1; omega
      subst this
      exact ⟨s, by rw [loop_eq]; rfl, by omega⟩
    | succ n ih =>
      intro k s h0 h1 h2 h3
      by_cases hk : k > 0
      · rw [loop_eq]
        unfold laws_markText_l1b
        simp only
        rw [if_pos (by simpa using hk)]
        have hc : ∀ a : Int, cat (b2s [a]) s = some (b2s [a] ++ s) := fun a => by
          unfold cat; rw [if_pos (by rw [b2s_size1]; omega)]
        rw [hc]
        simp only [Option.bind_some, Lp.elim]
        have hd : k.tdiv 10 = k / 10 := Int.tdiv_eq_ediv_of_nonneg h0
        rw [hd, w64_of (by omega) (by omega)]
        obtain ⟨t, g1, g2⟩ := ih (k / 10) (b2s [IntKind.u8.wrap (w64 (48 + k.tmod 10))] ++ s) (by omega) (by rw [Int.pow_succ] at h1; omega) (by omega) (by rw [ByteArray.size_append, b2s_size1]; omega)
        refine ⟨t, g1, ?_⟩
        rw [ByteArray.size_append, b2s_size1] at g2
        omega
      · have : k = 0 := by omega
        subst this
        exact ⟨s, by rw [loop_eq]; rfl, by omega⟩
  unfold laws_markText
  by_cases hk : k ≤ 0
  · rw [if_pos (by simpa using hk)]
    exact ⟨_, rfl⟩
  · rw [if_neg (by simpa using hk)]
    obtain ⟨t, g1, g2⟩ := key 19 k (bs []) h0 (by omega) h1 (by decide)
    unfold laws_markText_l1
    rw [g1]
    simp only [Option.bind_some]
    have e0 : (bs []).size = 0 := rfl
    have e1 : (bs [109]).size = 1 := rfl
    unfold cat
    rw [if_pos (by omega)]
    exact ⟨_, rfl⟩

noncomputable def mT (k : Int) : ByteArray := (laws_markText k).getD ByteArray.empty

theorem markText_eq {k : Int} (h0 : 0 ≤ k) (h1 : k ≤ 9223372036854775807) : laws_markText k = some (mT k) := by
  obtain ⟨s, hs⟩ := markText_some h0 h1
  unfold mT
  rw [hs]
  rfl

noncomputable def mTerm (x : Term) (k : Int) : Term := ({ Name := mT (k), Low := ({ A := (k + 1), B := (k + 1 + 1), C := (k + 1 + 1 + 1) } : Version), High := ({ A := (k + 1 + 1 + 1 + 1), B := (k + 1 + 1 + 1 + 1 + 1), C := (k + 1 + 1 + 1 + 1 + 1 + 1) } : Version) } : Term)

noncomputable def cTerm (x : Term) : Int := 1 + 1 + 1 + 1 + 1 + 1 + 1

theorem cTerm_nonneg (x : Term) : 0 ≤ cTerm x := by
  unfold cTerm
  omega

theorem markTermSr_eq (xs : List Term) (hx : xs.length ≤ 1049600 ∧ ∀ y0 ∈ xs, Term.sm 1049600 y0) (k : Int) (h0 : 0 ≤ k) (h1 : k + cs cTerm xs ≤ 9223372036854775807) : laws_markTermSr xs k = some (k + cs cTerm xs, pm mTerm cTerm xs k) := by
  unfold laws_markTermSr laws_markTermSr_l1
  have key := mark_loop mTerm cTerm (fun y0 => Term.sm 1049600 y0) cTerm_nonneg (b := laws_markTermSr_l1b) ?_ ?_ xs [] k hx.2 h0 h1 (by have := hx.1; simp; omega)
  · simp only [List.nil_append, List.length_nil, Int.natCast_zero] at key
    rw [key]
    rfl
  · intro l r x k hP h0 hk hl
    simp only [cTerm] at hk
    have t0 := markText_eq (k := k) (by omega) (by omega)
    have w0 := w64_of (x := k + 1) (by omega) (by omega)
    have w1 := w64_of (x := k + 1 + 1) (by omega) (by omega)
    have w2 := w64_of (x := k + 1 + 1 + 1) (by omega) (by omega)
    have w3 := w64_of (x := k + 1 + 1 + 1 + 1) (by omega) (by omega)
    have w4 := w64_of (x := k + 1 + 1 + 1 + 1 + 1) (by omega) (by omega)
    have w5 := w64_of (x := k + 1 + 1 + 1 + 1 + 1 + 1) (by omega) (by omega)
    have w6 := w64_of (x := k + 1 + 1 + 1 + 1 + 1 + 1 + 1) (by omega) (by omega)
    have hi2 : w64 ((l.length : Int) + 1) = ((l.length + 1 : Nat) : Int) := w64_nat (by omega)
    unfold laws_markTermSr_l1b
    rw [if_pos (by simp; omega)]
    simp only [idx_append, set_app, Option.bind_some, Int.toNat_natCast, hi2, t0, w0, w1, w2, w3, w4, w5, w6]
    rw [show k + 1 + 1 + 1 + 1 + 1 + 1 + 1 = k + cTerm x from by simp only [cTerm]; omega]
    rfl
  · intro l k
    unfold laws_markTermSr_l1b
    rw [if_neg (by simp)]

theorem heldTermS_eq (xs : List Term) (hx : xs.length ≤ 1049600 ∧ ∀ y0 ∈ xs, Term.sm 1049600 y0) (k : Int) (h0 : 0 ≤ k) (h1 : k + cs cTerm xs ≤ 9223372036854775807) : laws_heldTermS (pm mTerm cTerm xs k) k = some (k + cs cTerm xs) := by
  unfold laws_heldTermS laws_heldTermS_l1
  have key := held_loop mTerm cTerm (fun y0 => Term.sm 1049600 y0) cTerm_nonneg (b := laws_heldTermS_l1b) ?_ ?_ xs [] k hx.2 h0 h1 (by have := hx.1; simp; omega)
  · simp only [List.nil_append, List.length_nil, Int.natCast_zero] at key
    rw [key]
    rfl
  · intro l r x k hP h0 hk hl
    simp only [cTerm] at hk
    have t0 := markText_eq (k := k) (by omega) (by omega)
    have w0 := w64_of (x := k + 1) (by omega) (by omega)
    have w1 := w64_of (x := k + 1 + 1) (by omega) (by omega)
    have w2 := w64_of (x := k + 1 + 1 + 1) (by omega) (by omega)
    have w3 := w64_of (x := k + 1 + 1 + 1 + 1) (by omega) (by omega)
    have w4 := w64_of (x := k + 1 + 1 + 1 + 1 + 1) (by omega) (by omega)
    have w5 := w64_of (x := k + 1 + 1 + 1 + 1 + 1 + 1) (by omega) (by omega)
    have w6 := w64_of (x := k + 1 + 1 + 1 + 1 + 1 + 1 + 1) (by omega) (by omega)
    have hi2 : w64 ((l.length : Int) + 1) = ((l.length + 1 : Nat) : Int) := w64_nat (by omega)
    unfold laws_heldTermS_l1b
    rw [if_pos (by simp; omega)]
    simp [idx_append, hi2, mTerm, t0, w0, w1, w2, w3, w4, w5, w6]
    all_goals (first | rfl | omega | (simp only [cTerm]; omega))
  · intro l k
    unfold laws_heldTermS_l1b
    rw [if_neg (by simp)]

theorem Version.sm_mono {x : Version} (h : Version.sm 1048576 x) : Version.sm 1049600 x := ⟨trivial, trivial, trivial⟩

theorem Term.sm_mono {x : Term} (h : Term.sm 1048576 x) : Term.sm 1049600 x := ⟨(Nat.le_trans h.1 (by decide)), (Version.sm_mono h.2.1), (Version.sm_mono h.2.2)⟩

theorem csTermS_le (x : (List Term)) (hx : x.length ≤ 1049600 ∧ ∀ y0 ∈ x, Term.sm 1049600 y0) : cs cTerm x ≤ 7347200 := by
  have := cs_le (c := cTerm) (C := 7) (N := 1049600) (by decide) x (fun a ha => by have hP := hx.2 a ha; unfold cTerm; omega) hx.1
  omega

theorem FnExactAsksWithout_true (a1 : (List Term)) (a2 : ByteArray) (k0 : a1.length ≤ maxLen ∧ ∀ y1 ∈ a1, Term.ok y1) (k1 : a2.size ≤ maxLen) (both : (a1.length ≤ 1048576 ∧ ∀ y0 ∈ a1, Term.sm 1048576 y0) → (a2.size ≤ 1048576) → ∃ r, spec_AsksWithout a1 a2 = some r ∧ impl_AsksWithout a1 a2 = some r ∧ (r.length ≤ 1049600 ∧ ∀ y0 ∈ r, Term.sm 1049600 y0)) : laws_FnExactAsksWithout a1 a2 = some true := by
  unfold laws_FnExactAsksWithout
  by_cases d1 : (a2.size : Int) > 1048576
  · rw [if_pos (by simpa using d1)]
  rw [if_neg (by simpa using d1)]
  have s_a2 : a2.size ≤ 1048576 := by omega
  obtain ⟨r2, e2, g2⟩ := szTermS_ok a1 k0 1048576 (by omega) (by omega)
  rw [e2]
  simp only [Option.bind_some]
  by_cases d2 : r2 < 0
  · rw [if_pos (by simpa using d2)]
  rw [if_neg (by simpa using d2)]
  obtain ⟨p2, q2, s_a1⟩ := g2.resolve_left d2
  obtain ⟨r, e1, e2, hr⟩ := both s_a1 s_a2
  have m_a1 : a1.length ≤ 1049600 ∧ ∀ y0 ∈ a1, Term.sm 1049600 y0 := ⟨Nat.le_trans s_a1.1 (by decide), fun y0 z0 => (Term.sm_mono (s_a1.2 y0 z0))⟩
  have m_a2 : a2.size ≤ 1049600 := (Nat.le_trans s_a2 (by decide))
  have n1 := cs_nonneg cTerm_nonneg a1
  have b1 := csTermS_le a1 (m_a1)
  have n3 := cs_nonneg cTerm_nonneg r
  have b3 := csTermS_le r (hr)
  have t2 := markTermSr_eq a1 m_a1 (1) (by omega) (by omega)
  have z1 : ¬ (1 + cs cTerm a1 < 0) := by omega
  have t4 := markTermSr_eq r hr 1 (by omega) (by omega)
  have u4 := heldTermS_eq r hr 1 (by omega) (by omega)
  have z2 : ¬ (1 + cs cTerm r < 0) := by omega
  simp [e1, e2, toTermS_eq a1 m_a1, eqTermS_self a1 m_a1, eqTermS_self r hr, t2, z1, t4, u4, z2, same_of (pm_length _ _ _ _)]

/-! ### slices.DeleteFunc -/
section del
variable {α : Type} (p : α → Bool)

theorem lsub_of {xs : List α} {l h : Nat} (h1 : l ≤ h) (h2 : h ≤ xs.length) : lsub xs (l : Int) (h : Int) = some ((xs.drop l).take (h - l)) := by
  unfold lsub
  rw [if_pos (by omega)]
  rfl

theorem clrw_of {xs : List α} {l n : Nat} {a : α} (h : l + n ≤ xs.length) : clrw xs (l : Int) n a = some (xs.take l ++ List.replicate n a ++ xs.drop (l + n)) := by
  unfold clrw
  rw [if_pos (by omega)]
  simp [ovr]

/-- The first one that is meant; else the end. -/
theorem ixf_loop {R : Type} (a1 : List α) (out : Int → R) {b : Int → Option (Lp Int (Fl R Unit))} (hl : a1.length < 9223372036854775807)
    (hstep : ∀ (i : Nat) (hi : i < a1.length), b (i : Int) = some (if p a1[i] then .done (.ret (out i)) else .go ((i + 1 : Nat) : Int))) (hend : b (a1.length : Int) = some (.done (.nxt ()))) :
    ∃ t, loop b 0 = some t ∧ ((t = .nxt () ∧ ∀ x ∈ a1, p x = false) ∨ ∃ i : Nat, ∃ hi : i < a1.length, t = .ret (out i) ∧ p a1[i] = true ∧ ∀ x ∈ a1.take i, p x = false) := by
  refine loop_up (b := b) (fun i s => s = (i : Int) ∧ ∀ x ∈ a1.take i, p x = false) a1.length _ (by
    rintro i s hi ⟨rfl, hn⟩
    have e := hstep i hi
    cases hp : p a1[i]
    · rw [hp] at e
      refine .inl ⟨_, e, rfl, fun x hx => ?_⟩
      rw [List.take_succ_eq_append_getElem hi] at hx
      rcases List.mem_append.1 hx with hx | hx
      · exact hn x hx
      · simp at hx; rw [hx]; exact hp
    · rw [hp] at e
      exact .inr ⟨_, e, .inr ⟨i, hi, rfl, hp, hn⟩⟩) (by
    rintro s ⟨rfl, hn⟩
    rw [List.take_length] at hn
    exact ⟨_, hend, .inl ⟨rfl, hn⟩⟩) a1.length 0 0 (by omega) ⟨rfl, by simp⟩

theorem set_take {xs : List α} {i : Nat} {x : α} (h : i < xs.length) : (xs.set i x).take (i + 1) = xs.take i ++ [x] := by
  rw [List.take_succ_eq_append_getElem (by simpa using h), List.take_set_of_le (Nat.le_refl _)]
  simp

theorem set_drop {xs : List α} {i j : Nat} {x : α} (h : i < j) : (xs.set i x).drop j = xs.drop j := by
  rw [List.drop_set_of_lt h]

/-- What stays is moved to the front. -/
theorem del_loop (a : List α) {b : (List α × Int × Int) → Option (Lp (List α × Int × Int) (List α × Int))} (hl : a.length < 9223372036854775807)
    (hstep : ∀ (xs : List α) (i j : Nat) (hj : j < xs.length), i ≤ j → xs.length = a.length → b (xs, (i : Int), (j : Int)) = some (.go (if p xs[j] then (xs, (i : Int), ((j + 1 : Nat) : Int)) else (xs.set i xs[j], ((i + 1 : Nat) : Int), ((j + 1 : Nat) : Int)))))
    (hend : ∀ (xs : List α) (i : Nat), xs.length = a.length → b (xs, (i : Int), (xs.length : Int)) = some (.done (xs, (i : Int)))) (i0 j0 : Nat) (hij : i0 ≤ j0) (hj0 : j0 ≤ a.length) (h0 : a.take i0 = (a.take j0).filter (fun x => !p x)) :
    ∃ ys : List α, loop b (a, (i0 : Int), (j0 : Int)) = some (ys, ((a.filter (fun x => !p x)).length : Int)) ∧ ys.length = a.length ∧ ys.take (a.filter (fun x => !p x)).length = a.filter (fun x => !p x) := by
  obtain ⟨t, e, h⟩ := loop_up (b := b) (fun j s => s.1.length = a.length ∧ s.1.drop j = a.drop j ∧ s.2.2 = (j : Int) ∧ ∃ i : Nat, s.2.1 = (i : Int) ∧ i ≤ j ∧ s.1.take i = (a.take j).filter (fun x => !p x)) a.length
    (fun t => t.1.length = a.length ∧ ∃ i : Nat, t.2 = (i : Int) ∧ i ≤ a.length ∧ t.1.take i = a.filter (fun x => !p x)) (by
    rintro j ⟨xs, i', j'⟩ hj ⟨hxl, hxd, hjj, i, hi, hle, ht⟩
    simp only at hxl hxd hjj hi ht
    subst hjj hi
    have hjx : j < xs.length := by omega
    have hx : xs[j] = a[j] := by
      have := congrArg (fun l => l[0]?) hxd
      simp only [List.getElem?_drop, Nat.add_zero] at this
      rw [List.getElem?_eq_getElem hjx, List.getElem?_eq_getElem hj] at this
      exact Option.some.inj this
    have e := hstep xs i j hjx hle hxl
    have htk : (a.take (j + 1)).filter (fun x => !p x) = (a.take j).filter (fun x => !p x) ++ (if p a[j] then [] else [a[j]]) := by
      rw [List.take_succ_eq_append_getElem hj, List.filter_append]
      cases h : p a[j] <;> simp [h]
    have hd1 : a.drop (j + 1) = xs.drop (j + 1) := by
      have := congrArg (List.drop 1) hxd
      simpa [List.drop_drop] using this.symm
    rw [hx] at e
    cases hp : p a[j]
    · rw [hp] at e htk
      refine .inl ⟨_, e, by simpa using hxl, ?_, rfl, i + 1, rfl, by omega, ?_⟩
      · show (xs.set i a[j]).drop (j + 1) = a.drop (j + 1)
        rw [set_drop (by omega), hd1]
      · show (xs.set i a[j]).take (i + 1) = _
        rw [set_take (by omega), htk, ht]
        rfl
    · rw [hp] at e htk
      refine .inl ⟨_, e, hxl, ?_, rfl, i, rfl, by omega, ?_⟩
      · exact hd1.symm
      · show xs.take i = _
        rw [htk, ht]
        simp) (by
    rintro ⟨xs, i', j'⟩ ⟨hxl, hxd, hjj, i, hi, hle, ht⟩
    simp only at hxl hxd hjj hi ht
    subst hjj hi
    have e := hend xs i hxl
    rw [hxl] at e
    refine ⟨_, e, hxl, i, rfl, hle, ?_⟩
    rw [List.take_length] at ht
    exact ht) (a.length - j0) j0 (a, (i0 : Int), (j0 : Int)) (by omega) ⟨rfl, rfl, rfl, i0, rfl, hij, h0⟩
  obtain ⟨ys, i'⟩ := t
  obtain ⟨h1, i, h2, h3, h4⟩ := h
  simp only at h1 h2 h4
  subst h2
  have hlen : i = (a.filter (fun x => !p x)).length := by rw [← h4]; simp; omega
  subst hlen
  exact ⟨ys, e, h1, h4⟩

theorem fin_del {a ys : List α} (zero : α) (h1 : ys.length = a.length) (h2 : ys.take (a.filter (fun x => !p x)).length = a.filter (fun x => !p x)) :
    (lsub ys ((a.filter (fun x => !p x)).length : Int) (ys.length : Int)).bind (fun r => (clrw ys ((a.filter (fun x => !p x)).length : Int) r.length zero).bind fun z => (lsub z 0 ((a.filter (fun x => !p x)).length : Int)).bind fun q => some q) = some (a.filter (fun x => !p x)) := by
  have hle : (a.filter (fun x => !p x)).length ≤ ys.length := by rw [h1]; exact List.length_filter_le _ _
  rw [lsub_of hle (Nat.le_refl _)]
  simp only [Option.bind_some]
  rw [clrw_of (by simp; omega)]
  simp only [Option.bind_some]
  have : lsub (List.take (List.filter (fun x => !p x) a).length ys ++ List.replicate (List.take (ys.length - (List.filter (fun x => !p x) a).length) (List.drop (List.filter (fun x => !p x) a).length ys)).length zero ++
          List.drop ((List.filter (fun x => !p x) a).length + (List.take (ys.length - (List.filter (fun x => !p x) a).length) (List.drop (List.filter (fun x => !p x) a).length ys)).length) ys) ((0 : Nat) : Int) ((a.filter (fun x => !p x)).length : Int) = some (a.filter (fun x => !p x)) := by
    rw [lsub_of (by omega) (by simp; omega)]
    rw [h2]
    simp
  exact (congrArg (fun o => Option.bind o fun q => some q) this)
end del
theorem AsksWithout_del (a1 : List Term) (a2 : ByteArray) (h1 : a1.length ≤ 1048576) : slices_DeleteFunc_LimplTermr_impl_AsksWithout_1 a1 a2 = some (a1.filter (fun x => !(seq x.Name a2))) := by
  obtain ⟨t, e, h⟩ := ixf_loop (fun x : Term => seq x.Name a2) a1 (fun i => i) (b := slices_IndexFunc_LimplTermr_impl_AsksWithout_1_l1b a1 a2) (by omega) (by
    intro i hi
    unfold slices_IndexFunc_LimplTermr_impl_AsksWithout_1_l1b impl_AsksWithout_1
    rw [if_pos (by simp; omega), idx_nat hi]
    simp only [Option.bind_some]
    rw [w64_nat (by omega)]
    split <;> rfl) (by
    unfold slices_IndexFunc_LimplTermr_impl_AsksWithout_1_l1b
    rw [if_neg (by simp)])
  unfold slices_DeleteFunc_LimplTermr_impl_AsksWithout_1 slices_IndexFunc_LimplTermr_impl_AsksWithout_1 slices_IndexFunc_LimplTermr_impl_AsksWithout_1_l1
  rw [e]
  rcases h with ⟨rfl, hn⟩ | ⟨i, hi, rfl, hp, hn⟩
  · show some a1 = _
    congr 1
    exact (List.filter_eq_self.2 (fun x hx => by rw [hn x hx]; rfl)).symm
  · simp only [Option.bind_some, Fl.go]
    rw [if_neg (by simp), w64_nat (by omega)]
    obtain ⟨ys, e2, h2, h3⟩ := del_loop (fun x : Term => seq x.Name a2) a1 (b := slices_DeleteFunc_LimplTermr_impl_AsksWithout_1_l1b a2) (by omega) (by
      intro xs i j hj hij hl
      unfold slices_DeleteFunc_LimplTermr_impl_AsksWithout_1_l1b impl_AsksWithout_1
      simp only
      rw [if_pos (by simp; omega), idx_nat hj]
      simp only [Option.bind_some]
      rw [idx_nat (show i < xs.length by omega), w64_nat (show j < _ by omega), w64_nat (show i < _ by omega)]
      cases seq xs[j].Name a2 <;> simp) (by
      intro xs i hl
      unfold slices_DeleteFunc_LimplTermr_impl_AsksWithout_1_l1b
      rw [if_neg (by simp)]) i (i + 1) (by omega) (by omega) (by
      rw [List.take_succ_eq_append_getElem hi, List.filter_append]
      rw [List.filter_eq_self.2 (fun x hx => by rw [hn x hx]; rfl)]
      simp [hp])
    unfold slices_DeleteFunc_LimplTermr_impl_AsksWithout_1_l1
    rw [e2]
    simp only [Option.bind_some]
    exact fin_del (fun x : Term => seq x.Name a2) _ h2 h3

theorem AsksWithout_spec (a1 : List Term) (a2 : ByteArray) (h1 : a1.length ≤ 1048576) : spec_AsksWithout a1 a2 = some (a1.filter (fun x => !(seq x.Name a2))) := by
  obtain ⟨t, e, h⟩ := loop_up (b := spec_AsksWithout_l1b a1 a2) (fun i s => s.2 = (i : Int) ∧ s.1 = (a1.take i).filter (fun x => !(seq x.Name a2))) a1.length (fun t => t = a1.filter (fun x => !(seq x.Name a2))) (by
    rintro i ⟨l, j⟩ hi ⟨hj, hl⟩
    simp only at hj hl
    subst hj
    unfold spec_AsksWithout_l1b
    rw [if_pos (by simp; omega)]
    simp only [idx_nat hi, Option.bind_some]
    have hlen : l.length ≤ i := by rw [hl]; exact Nat.le_trans (List.length_filter_le _ _) (by simp; omega)
    rw [w64_nat (by omega), app_of (by simp; omega) (by simp; omega)]
    refine .inl ?_
    have htk : (a1.take (i + 1)).filter (fun x => !(seq x.Name a2)) = l ++ (if seq a1[i].Name a2 then [] else [a1[i]]) := by
      rw [List.take_succ_eq_append_getElem hi, List.filter_append, hl]
      cases h : seq a1[i].Name a2 <;> simp [h]
    cases hs : seq a1[i].Name a2
    · exact ⟨_, rfl, rfl, by rw [htk, hs]; rfl⟩
    · exact ⟨_, rfl, rfl, by rw [htk, hs]; simp⟩) (by
    rintro ⟨l, j⟩ ⟨hj, hl⟩
    simp only at hj hl
    subst hj
    unfold spec_AsksWithout_l1b
    rw [if_neg (by simp)]
    exact ⟨_, rfl, by rw [List.take_length] at hl; exact hl⟩) a1.length 0 (([] : List Term), 0) (by omega) ⟨rfl, by simp⟩
  subst h
  unfold spec_AsksWithout spec_AsksWithout_l1
  rw [e]
  rfl

theorem AsksWithout_both (a1 : List Term) (a2 : ByteArray) (_ : a1.length ≤ maxLen ∧ ∀ y1 ∈ a1, Term.ok y1) (_ : a2.size ≤ maxLen) (h1 : a1.length ≤ 1048576 ∧ ∀ y0 ∈ a1, Term.sm 1048576 y0) (h2 : a2.size ≤ 1048576) :
    ∃ r, spec_AsksWithout a1 a2 = some r ∧ impl_AsksWithout a1 a2 = some r ∧ (r.length ≤ 1049600 ∧ ∀ y0 ∈ r, Term.sm 1049600 y0) := by
  refine ⟨_, AsksWithout_spec a1 a2 h1.1, ?_, Nat.le_trans (List.length_filter_le _ _) (by omega), fun y hy => Term.sm_mono (h1.2 y (List.mem_filter.1 hy).1)⟩
  unfold impl_AsksWithout slices_Clone_LimplTerm
  rw [app_of (by simp; omega) (by simp; omega)]
  simp only [Option.bind_some, List.nil_append]
  rw [AsksWithout_del a1 a2 h1.1]
  rfl
theorem FnExactAsksWithout_law (a1 : (List Term)) (a2 : ByteArray) (k0 : a1.length ≤ maxLen ∧ ∀ y1 ∈ a1, Term.ok y1) (k1 : a2.size ≤ maxLen) : laws_FnExactAsksWithout a1 a2 = some true := FnExactAsksWithout_true a1 a2 k0 k1 (AsksWithout_both a1 a2 k0 k1)
end Go.Told

import Derived.Test.YtbifnchjphefeaaToldCheckPlan
set_option linter.unusedVariables false
set_option maxRecDepth 4000
namespace Go.Told
open Go Go.Im

/-! ### Loops and lists in general -/
theorem loop_congr {S T : Type} {b b' : S → Option (Lp S T)} (h : ∀ s, b s = b' s) : loop b = loop b' := by
  have : b = b' := funext h
  rw [this]

theorem w64_of {x : Int} (h1 : -9223372036854775808 ≤ x) (h2 : x ≤ 9223372036854775807) : w64 x = x := by
  unfold w64
  rw [IntKind.wrap_i64]
  omega

theorem w64_nat {i : Nat} (h : i < 9223372036854775807) : w64 ((i : Int) + 1) = ((i + 1 : Nat) : Int) := by
  rw [w64_of (by omega) (by omega)]; omega

/-- Going through a list from the front. -/
theorem loop_up {T : Type} {S : Type} {b : S → Option (Lp S T)} (I : Nat → S → Prop) (n : Nat) (Q : T → Prop) (hstep : ∀ i s, i < n → I i s → (∃ s', b s = some (.go s') ∧ I (i + 1) s') ∨ ∃ t, b s = some (.done t) ∧ Q t)
    (hend : ∀ s, I n s → ∃ t, b s = some (.done t) ∧ Q t) : ∀ (k i : Nat) (s : S), i + k = n → I i s → ∃ t, loop b s = some t ∧ Q t
  | 0, i, s, hk, hI => by
    obtain ⟨t, h1, h2⟩ := hend s (by rw [show n = i by omega]; exact hI)
    exact ⟨t, by rw [loop_eq, h1]; rfl, h2⟩
  | k + 1, i, s, hk, hI => by
    rcases hstep i s (by omega) hI with ⟨s', h1, h2⟩ | ⟨t, h1, h2⟩
    · obtain ⟨t, h3, h4⟩ := loop_up I n Q hstep hend k (i + 1) s' (by omega) h2
      exact ⟨t, by rw [loop_eq, h1]; exact h3, h4⟩
    · exact ⟨t, by rw [loop_eq, h1]; rfl, h2⟩

theorem idx_nat {α : Type} {xs : List α} {i : Nat} (h : i < xs.length) : idx xs (i : Int) = some xs[i] := by
  unfold idx
  rw [if_pos (by omega)]
  simp [h]

theorem idx_append {α : Type} (l r : List α) (x : α) : idx (l ++ x :: r) (l.length : Int) = some x := by
  rw [idx_nat (by simp)]
  simp

/-- What a walk over a list comes to. -/
def goL {α A T : Type} (g : Nat → A → α → Lp A T) (fin : A → T) : Nat → List α → A → T
  | _, [], a => fin a
  | i, x :: xs, a => match g i a x with
    | .go a' => goL g fin (i + 1) xs a'
    | .done t => t

theorem loop_goL {α A S T : Type} (xs : List α) (g : Nat → A → α → Lp A T) (fin : A → T) (e : Nat → A → S) (I : Nat → A → Prop) {b : S → Option (Lp S T)}
    (hstep : ∀ (i : Nat) (a : A) (hi : i < xs.length), I i a → b (e i a) = some (match g i a xs[i] with | .go a' => .go (e (i + 1) a') | .done t => .done t) ∧ ∀ a', g i a xs[i] = .go a' → I (i + 1) a')
    (hend : ∀ a, I xs.length a → b (e xs.length a) = some (.done (fin a))) : ∀ (k i : Nat) (a : A), i + k = xs.length → I i a → loop b (e i a) = some (goL g fin i (xs.drop i) a)
  | 0, i, a, hk, hI => by
    have : i = xs.length := by omega
    subst this
    rw [loop_eq, hend a hI, List.drop_length]; rfl
  | k + 1, i, a, hk, hI => by
    have hi : i < xs.length := by omega
    obtain ⟨h1, h2⟩ := hstep i a hi hI
    rw [loop_eq, h1, List.drop_eq_getElem_cons hi]
    simp only [goL]
    cases hg : g i a xs[i] with
    | go a' =>
      simp only [Option.bind_some, Lp.elim]
      exact loop_goL xs g fin e I hstep hend k (i + 1) a' (by omega) (h2 a' hg)
    | done t => rfl

theorem loop_list {α A S T : Type} (xs : List α) (g : Nat → A → α → Lp A T) (fin : A → T) (e : Nat → A → S) (I : Nat → A → Prop) {b : S → Option (Lp S T)} (a0 : A)
    (hstep : ∀ (i : Nat) (a : A) (hi : i < xs.length), I i a → b (e i a) = some (match g i a xs[i] with | .go a' => .go (e (i + 1) a') | .done t => .done t) ∧ ∀ a', g i a xs[i] = .go a' → I (i + 1) a')
    (hend : ∀ a, I xs.length a → b (e xs.length a) = some (.done (fin a))) (h0 : I 0 a0) : loop b (e 0 a0) = some (goL g fin 0 xs a0) := by
  have := loop_goL xs g fin e I hstep hend xs.length 0 a0 (by omega) h0
  simpa using this

/-- A list that is copied element by element. -/
theorem to_loop {α : Type} (xs : List α) {b : (List α × Int) → Option (Lp (List α × Int) (List α))} (hstep : ∀ (ys : List α) (i : Nat) (hi : i < xs.length), ys.length = xs.length → b (ys, (i : Int)) = some (.go (ys.set i xs[i], ((i + 1 : Nat) : Int))))
    (hend : ∀ ys : List α, ys.length = xs.length → b (ys, (xs.length : Int)) = some (.done ys)) (y0 : List α) (h0 : y0.length = xs.length) : loop b (y0, 0) = some xs := by
  obtain ⟨t, h1, h2⟩ := loop_up (b := b) (fun i s => s.2 = (i : Int) ∧ s.1.length = xs.length ∧ s.1.take i = xs.take i) xs.length (fun t => t = xs) (by
    rintro i ⟨ys, j⟩ hi ⟨hj, hl, hp⟩
    simp only at hj hl hp
    subst hj
    refine .inl ⟨_, hstep ys i hi hl, rfl, by simpa using hl, ?_⟩
    simp only
    rw [List.take_succ_eq_append_getElem (by simp; omega), List.take_succ_eq_append_getElem hi, ← hp, List.take_set_of_le (Nat.le_refl _)]
    simp) (by
    rintro ⟨ys, j⟩ ⟨hj, hl, hp⟩
    simp only at hj hl hp
    subst hj
    refine ⟨ys, hend ys hl, ?_⟩
    rw [List.take_of_length_le (by omega), List.take_of_length_le (by omega)] at hp
    exact hp) xs.length 0 (y0, 0) (by omega) ⟨rfl, h0, by simp⟩
  rw [h1, h2]

/-- Two lists held against each other that are one. -/
theorem eq_loop {R : Type} (n : Nat) {b : Int → Option (Lp Int (Fl R Unit))} (hstep : ∀ i : Nat, i < n → b (i : Int) = some (.go ((i + 1 : Nat) : Int))) (hend : b (n : Int) = some (.done (.nxt ()))) : loop b 0 = some (.nxt ()) := by
  obtain ⟨t, h1, h2⟩ := loop_up (b := b) (fun i s => s = (i : Int)) n (fun t => t = .nxt ()) (by
    rintro i s hi rfl
    exact .inl ⟨_, hstep i hi, rfl⟩) (by
    rintro s rfl
    exact ⟨_, hend, rfl⟩) n 0 0 (by omega) rfl
  rw [h1, h2]

/-- What is left of a size. -/
theorem sz_loop {α : Type} (xs : List α) (P : α → Prop) (l : Int) {b : (Int × Int) → Option (Lp (Int × Int) (Fl Int Int))}
    (hstep : ∀ (q : Int) (i : Nat) (hi : i < xs.length), 0 ≤ q → q ≤ l → (∃ q', b (q, (i : Int)) = some (.go (q', ((i + 1 : Nat) : Int))) ∧ 0 ≤ q' ∧ q' ≤ q ∧ P xs[i]) ∨ ∃ t, b (q, (i : Int)) = some (.done (.ret t)) ∧ t < 0)
    (hend : ∀ q : Int, b (q, (xs.length : Int)) = some (.done (.nxt q))) (h0 : 0 ≤ l) :
    ∃ t, loop b (l, 0) = some t ∧ match t with | .ret r => r < 0 | .nxt r => 0 ≤ r ∧ r ≤ l ∧ ∀ x ∈ xs, P x := by
  refine loop_up (b := b) (fun i s => s.2 = (i : Int) ∧ 0 ≤ s.1 ∧ s.1 ≤ l ∧ ∀ j, (hj : j < xs.length) → j < i → P xs[j]) xs.length _ (by
    rintro i ⟨q, j⟩ hi ⟨hj, h1, h2, h3⟩
    simp only at hj h1 h2 h3
    subst hj
    rcases hstep q i hi h1 h2 with ⟨q', e, g1, g2, g3⟩ | ⟨t, e, ht⟩
    · refine .inl ⟨_, e, rfl, g1, by simp only; omega, fun j hj hji => ?_⟩
      rcases Nat.lt_or_ge j i with h | h
      · exact h3 j hj h
      · have : j = i := by omega
        subst this; exact g3
    · exact .inr ⟨_, e, ht⟩) (by
    rintro ⟨q, j⟩ ⟨hj, h1, h2, h3⟩
    simp only at hj h1 h2 h3
    subst hj
    refine ⟨_, hend q, h1, h2, fun x hx => ?_⟩
    obtain ⟨j, hj, rfl⟩ := List.getElem_of_mem hx
    exact h3 j hj hj) xs.length 0 (l, 0) (by omega) ⟨rfl, h0, Int.le_refl _, fun j _ h => by omega⟩

/-! ### Marks -/
def pm {α : Type} (m : α → Int → α) (c : α → Int) : List α → Int → List α
  | [], _ => []
  | x :: xs, k => m x k :: pm m c xs (k + c x)

def cs {α : Type} (c : α → Int) : List α → Int
  | [] => 0
  | x :: xs => c x + cs c xs

theorem pm_length {α : Type} (m : α → Int → α) (c : α → Int) : ∀ (xs : List α) (k : Int), (pm m c xs k).length = xs.length
  | [], _ => rfl
  | x :: xs, k => by simp [pm, pm_length m c xs]

theorem cs_nonneg {α : Type} {c : α → Int} (hc : ∀ a, 0 ≤ c a) : ∀ (xs : List α), 0 ≤ cs c xs
  | [] => Int.le_refl _
  | x :: xs => by have := hc x; have := cs_nonneg hc xs; simp only [cs]; omega

theorem cs_le {α : Type} {c : α → Int} {C : Int} {N : Nat} (hC : 0 ≤ C) : ∀ (xs : List α), (∀ a ∈ xs, c a ≤ C) → xs.length ≤ N → cs c xs ≤ N * C
  | [], _, _ => Int.mul_nonneg (by omega) hC
  | x :: xs, h, hl => by
    have h1 := h x (by simp)
    simp only [List.length_cons] at hl
    have h2 := cs_le (N := N - 1) hC xs (fun a ha => h a (by simp [ha])) (by omega)
    simp only [cs]
    have : ((N - 1 : Nat) : Int) * C + C = N * C := by
      have e : ((N - 1 : Nat) : Int) = (N : Int) - 1 := by omega
      rw [e, Int.sub_mul, Int.one_mul]; omega
    omega

theorem mark_loop {α : Type} (m : α → Int → α) (c : α → Int) (P : α → Prop) (hc : ∀ a, 0 ≤ c a) {b : (List α × Int × Int) → Option (Lp (List α × Int × Int) (List α × Int))}
    (hstep : ∀ (l r : List α) (x : α) (k : Int), P x → 0 ≤ k → k + c x ≤ 9223372036854775807 → l.length < 9223372036854775807 → b (l ++ x :: r, k, (l.length : Int)) = some (.go (l ++ m x k :: r, k + c x, ((l.length + 1 : Nat) : Int))))
    (hend : ∀ (l : List α) (k : Int), b (l, k, (l.length : Int)) = some (.done (l, k))) : ∀ (xs l : List α) (k : Int), (∀ x ∈ xs, P x) → 0 ≤ k → k + cs c xs ≤ 9223372036854775807 → l.length + xs.length < 9223372036854775807 →
    loop b (l ++ xs, k, (l.length : Int)) = some (l ++ pm m c xs k, k + cs c xs)
  | [], l, k, _, _, _, _ => by
    rw [loop_eq, List.append_nil, hend]
    simp [pm, cs, Lp.elim]
  | x :: xs, l, k, hP, h0, h1, h2 => by
    have hx := hc x
    have hxs := cs_nonneg hc xs
    simp only [cs] at h1
    simp only [List.length_cons] at h2
    rw [loop_eq, hstep l xs x k (hP x (by simp)) h0 (by omega) (by omega)]
    simp only [Option.bind_some, Lp.elim]
    have := mark_loop m c P hc hstep hend xs (l ++ [m x k]) (k + c x) (fun y hy => hP y (by simp [hy])) (by omega) (by omega) (by simp; omega)
    simp only [List.length_append, List.length_cons, List.length_nil, List.append_assoc, List.cons_append, List.nil_append] at this
    rw [this]
    simp only [pm, cs]
    congr 2
    omega

theorem held_loop {α : Type} (m : α → Int → α) (c : α → Int) (P : α → Prop) (hc : ∀ a, 0 ≤ c a) {b : List α → (Int × Int) → Option (Lp (Int × Int) (Fl Int Int))}
    (hstep : ∀ (l r : List α) (x : α) (k : Int), P x → 0 ≤ k → k + c x ≤ 9223372036854775807 → l.length < 9223372036854775807 → b (l ++ m x k :: r) (k, (l.length : Int)) = some (.go (k + c x, ((l.length + 1 : Nat) : Int))))
    (hend : ∀ (l : List α) (k : Int), b l (k, (l.length : Int)) = some (.done (.nxt k))) : ∀ (xs l : List α) (k : Int), (∀ x ∈ xs, P x) → 0 ≤ k → k + cs c xs ≤ 9223372036854775807 → l.length + xs.length < 9223372036854775807 →
    loop (b (l ++ pm m c xs k)) (k, (l.length : Int)) = some (.nxt (k + cs c xs))
  | [], l, k, _, _, _, _ => by
    rw [loop_eq, pm, List.append_nil, hend]
    simp [cs, Lp.elim]
  | x :: xs, l, k, hP, h0, h1, h2 => by
    have hx := hc x
    have hxs := cs_nonneg hc xs
    simp only [cs] at h1
    simp only [List.length_cons] at h2
    rw [pm, loop_eq, hstep l _ x k (hP x (by simp)) h0 (by omega) (by omega)]
    simp only [Option.bind_some, Lp.elim]
    have := held_loop m c P hc hstep hend xs (l ++ [m x k]) (k + c x) (fun y hy => hP y (by simp [hy])) (by omega) (by omega) (by simp; omega)
    simp only [List.length_append, List.length_cons, List.length_nil, List.append_assoc, List.cons_append, List.nil_append] at this
    rw [this]
    simp only [cs]
    congr 2
    omega

theorem same_of {α β : Type} {xs : List α} {ys : List β} (h : xs.length = ys.length) : same xs ys = some () := if_pos h

theorem set_app {α : Type} (l r : List α) (x y : α) : (l ++ x :: r).set l.length y = l ++ y :: r := by
  rw [List.set_append_right _ _ (Nat.le_refl _)]
  simp

theorem seq_self (a : ByteArray) : seq a a = true := by
  unfold seq
  simp

/-- One mark. -/
def c1 {α : Type} (_ : α) : Int := 1
theorem c1_nonneg {α : Type} (a : α) : 0 ≤ c1 a := by unfold c1; decide

theorem app_of {α : Type} {B : Nat} {xs ys : List α} (h : (xs.length + ys.length) * B ≤ 140737488355328) (h2 : xs.length + ys.length ≤ 4611686018427387904) : app B xs ys = some (xs ++ ys) := if_pos ⟨h, h2⟩

theorem loop_meas {S T : Type} {b : S → Option (Lp S T)} (I : S → Prop) (μ : S → Nat) (Q : T → Prop) (step : ∀ s, I s → (∃ s', b s = some (.go s') ∧ I s' ∧ μ s' < μ s) ∨ ∃ t, b s = some (.done t) ∧ Q t) : ∀ (n : Nat) (s : S), μ s ≤ n → I s → ∃ t, loop b s = some t ∧ Q t
  | 0, s, hn, hI => by
    rcases step s hI with ⟨s', _, _, h3⟩ | ⟨t, h1, h2⟩
    · omega
    · exact ⟨t, by rw [loop_eq, h1]; rfl, h2⟩
  | n + 1, s, hn, hI => by
    rcases step s hI with ⟨s', h1, h2, h3⟩ | ⟨t, h1, h2⟩
    · obtain ⟨t, h4, h5⟩ := loop_meas I μ Q step n s' (by omega) h2
      exact ⟨t, by rw [loop_eq, h1]; exact h4, h5⟩
    · exact ⟨t, by rw [loop_eq, h1]; rfl, h2⟩
def Version.ok (x : Version) : Prop := (IntKind.i64.min ≤ x.A ∧ x.A ≤ IntKind.i64.max) ∧ (IntKind.i64.min ≤ x.B ∧ x.B ≤ IntKind.i64.max) ∧ (IntKind.i64.min ≤ x.C ∧ x.C ≤ IntKind.i64.max)

def Term.ok (x : Term) : Prop := (x.Name.size ≤ maxLen) ∧ (Version.ok x.Low) ∧ (Version.ok x.High)

def Pack.ok (x : Pack) : Prop := (x.Name.size ≤ maxLen) ∧ (Version.ok x.Version) ∧ (IntKind.i64.min ≤ x.Size ∧ x.Size ≤ IntKind.i64.max) ∧ (x.Provides.length ≤ maxLen ∧ ∀ y1 ∈ x.Provides, y1.size ≤ maxLen) ∧ (x.Needs.length ≤ maxLen ∧ ∀ y1 ∈ x.Needs, y1.length ≤ maxLen ∧ ∀ y2 ∈ y1, Term.ok y2) ∧ (x.Bars.length ≤ maxLen ∧ ∀ y1 ∈ x.Bars, Term.ok y1)

theorem szInt64S_ok (x : (List Int)) (hx : x.length ≤ maxLen ∧ ∀ y1 ∈ x, IntKind.i64.min ≤ y1 ∧ y1 ≤ IntKind.i64.max) (l : Int) (h0 : 0 ≤ l) (h1 : l ≤ 1048576) : ∃ r, laws_szInt64S x l = some r ∧ (r < 0 ∨ (0 ≤ r ∧ r ≤ l ∧ (x.length ≤ 1048576 ∧ ∀ y0 ∈ x, True))) := by
  obtain ⟨hm, hx⟩ := hx
  unfold maxLen at hm
  unfold laws_szInt64S
  rw [w64_of (x := l - x.length) (by omega) (by omega)]
  by_cases c1 : l - (x.length : Int) < 0
  · rw [if_pos (by simpa using c1)]
    exact ⟨_, rfl, .inl (by omega)⟩
  · rw [if_neg (by simpa using c1)]
    exact ⟨_, rfl, .inr ⟨by omega, by omega, by omega, fun _ _ => trivial⟩⟩

theorem szInt64SS_ok (x : (List (List Int))) (hx : x.length ≤ maxLen ∧ ∀ y1 ∈ x, y1.length ≤ maxLen ∧ ∀ y2 ∈ y1, IntKind.i64.min ≤ y2 ∧ y2 ≤ IntKind.i64.max) (l : Int) (h0 : 0 ≤ l) (h1 : l ≤ 1048576) : ∃ r, laws_szInt64SS x l = some r ∧ (r < 0 ∨ (0 ≤ r ∧ r ≤ l ∧ (x.length ≤ 1048576 ∧ ∀ y0 ∈ x, y0.length ≤ 1048576 ∧ ∀ y1 ∈ y0, True))) := by
  obtain ⟨hm, hx⟩ := hx
  unfold maxLen at hm
  unfold laws_szInt64SS
  rw [w64_of (x := l - x.length) (by omega) (by omega)]
  by_cases c1 : l - (x.length : Int) < 0
  · rw [if_pos (by simpa using c1)]
    exact ⟨_, rfl, .inl (by omega)⟩
  · rw [if_neg (by simpa using c1)]
    have key := sz_loop x (fun y0 => y0.length ≤ 1048576 ∧ ∀ y1 ∈ y0, True) (l - x.length) (b := laws_szInt64SS_l1b x) ?_ ?_ (by omega)
    · obtain ⟨t, h2, h3⟩ := key
      unfold laws_szInt64SS_l1
      rw [h2]
      cases t with
      | ret r => exact ⟨r, rfl, .inl h3⟩
      | nxt r => exact ⟨r, rfl, .inr ⟨h3.1, by have := h3.2.1; omega, by omega, h3.2.2⟩⟩
    · intro q i hi hq0 hq1
      unfold laws_szInt64SS_l1b
      rw [if_pos (by simp; omega)]
      simp only [idx_nat hi, Option.bind_some]
      have hi2 : w64 ((i : Int) + 1) = ((i + 1 : Nat) : Int) := w64_nat (by omega)
      obtain ⟨r, e, hr⟩ := szInt64S_ok x[i] (hx _ (List.getElem_mem hi)) q hq0 (by omega)
      rw [e]
      simp only [Option.bind_some]
      by_cases c : r < 0
      · rw [if_pos (by simpa using c)]
        exact .inr ⟨_, rfl, by omega⟩
      · rw [if_neg (by simpa using c), hi2]
        obtain ⟨g1, g2, g3⟩ := hr.resolve_left c
        exact .inl ⟨_, rfl, g1, g2, g3⟩
    · intro q
      unfold laws_szInt64SS_l1b
      rw [if_neg (by simp)]

def Version.sm (B : Nat) (x : Version) : Prop := (True) ∧ (True) ∧ (True)

def Term.sm (B : Nat) (x : Term) : Prop := (x.Name.size ≤ B) ∧ (Version.sm B x.Low) ∧ (Version.sm B x.High)

def Pack.sm (B : Nat) (x : Pack) : Prop := (x.Name.size ≤ B) ∧ (Version.sm B x.Version) ∧ (True) ∧ (x.Provides.length ≤ B ∧ ∀ y0 ∈ x.Provides, y0.size ≤ B) ∧ (x.Needs.length ≤ B ∧ ∀ y0 ∈ x.Needs, y0.length ≤ B ∧ ∀ y1 ∈ y0, Term.sm B y1) ∧ (x.Bars.length ≤ B ∧ ∀ y0 ∈ x.Bars, Term.sm B y0)

theorem szStringS_ok (x : (List ByteArray)) (hx : x.length ≤ maxLen ∧ ∀ y1 ∈ x, y1.size ≤ maxLen) (l : Int) (h0 : 0 ≤ l) (h1 : l ≤ 1048576) : ∃ r, laws_szStringS x l = some r ∧ (r < 0 ∨ (0 ≤ r ∧ r ≤ l ∧ (x.length ≤ 1048576 ∧ ∀ y0 ∈ x, y0.size ≤ 1048576))) := by
  obtain ⟨hm, hx⟩ := hx
  unfold maxLen at hm
  unfold laws_szStringS
  rw [w64_of (x := l - x.length) (by omega) (by omega)]
  by_cases c1 : l - (x.length : Int) < 0
  · rw [if_pos (by simpa using c1)]
    exact ⟨_, rfl, .inl (by omega)⟩
  · rw [if_neg (by simpa using c1)]
    have key := sz_loop x (fun y0 => y0.size ≤ 1048576) (l - x.length) (b := laws_szStringS_l1b x) ?_ ?_ (by omega)
    · obtain ⟨t, h2, h3⟩ := key
      unfold laws_szStringS_l1
      rw [h2]
      cases t with
      | ret r => exact ⟨r, rfl, .inl h3⟩
      | nxt r => exact ⟨r, rfl, .inr ⟨h3.1, by have := h3.2.1; omega, by omega, h3.2.2⟩⟩
    · intro q i hi hq0 hq1
      unfold laws_szStringS_l1b
      rw [if_pos (by simp; omega)]
      simp only [idx_nat hi, Option.bind_some]
      have hi2 : w64 ((i : Int) + 1) = ((i + 1 : Nat) : Int) := w64_nat (by omega)
      have hs := hx _ (List.getElem_mem hi)
      unfold maxLen at hs
      rw [w64_of (x := q - (x[i]).size) (by omega) (by omega)]
      by_cases c : q - ((x[i]).size : Int) < 0
      · rw [if_pos (by simpa using c)]
        exact .inr ⟨_, rfl, by omega⟩
      · rw [if_neg (by simpa using c), hi2]
        exact .inl ⟨_, rfl, by omega, by omega, by show (x[i]).size ≤ 1048576; omega⟩
    · intro q
      unfold laws_szStringS_l1b
      rw [if_neg (by simp)]

theorem szTerm_ok (x : Term) (hx : Term.ok x) (l : Int) (h0 : 0 ≤ l) (h1 : l ≤ 1048576) : ∃ r, laws_szTerm x l = some r ∧ (r < 0 ∨ (0 ≤ r ∧ r ≤ l ∧ (Term.sm 1048576 x))) := by
  obtain ⟨k0, k1, k2⟩ := hx
  unfold maxLen at *
  unfold laws_szTerm
  rw [w64_of (x := l - x.Name.size) (by omega) (by omega)]
  by_cases c0 : l - (x.Name.size : Int) < 0
  · rw [if_pos (by simpa using c0)]
    exact ⟨_, rfl, .inl (by omega)⟩
  rw [if_neg (by simpa using c0)]
  exact ⟨_, rfl, .inr ⟨by omega, by omega, by omega, ⟨trivial, trivial, trivial⟩, ⟨trivial, trivial, trivial⟩⟩⟩

theorem szTermS_ok (x : (List Term)) (hx : x.length ≤ maxLen ∧ ∀ y1 ∈ x, Term.ok y1) (l : Int) (h0 : 0 ≤ l) (h1 : l ≤ 1048576) : ∃ r, laws_szTermS x l = some r ∧ (r < 0 ∨ (0 ≤ r ∧ r ≤ l ∧ (x.length ≤ 1048576 ∧ ∀ y0 ∈ x, Term.sm 1048576 y0))) := by
  obtain ⟨hm, hx⟩ := hx
  unfold maxLen at hm
  unfold laws_szTermS
  rw [w64_of (x := l - x.length) (by omega) (by omega)]
  by_cases c1 : l - (x.length : Int) < 0
  · rw [if_pos (by simpa using c1)]
    exact ⟨_, rfl, .inl (by omega)⟩
  · rw [if_neg (by simpa using c1)]
    have key := sz_loop x (fun y0 => Term.sm 1048576 y0) (l - x.length) (b := laws_szTermS_l1b x) ?_ ?_ (by omega)
    · obtain ⟨t, h2, h3⟩ := key
      unfold laws_szTermS_l1
      rw [h2]
      cases t with
      | ret r => exact ⟨r, rfl, .inl h3⟩
      | nxt r => exact ⟨r, rfl, .inr ⟨h3.1, by have := h3.2.1; omega, by omega, h3.2.2⟩⟩
    · intro q i hi hq0 hq1
      unfold laws_szTermS_l1b
      rw [if_pos (by simp; omega)]
      simp only [idx_nat hi, Option.bind_some]
      have hi2 : w64 ((i : Int) + 1) = ((i + 1 : Nat) : Int) := w64_nat (by omega)
      obtain ⟨r, e, hr⟩ := szTerm_ok x[i] (hx _ (List.getElem_mem hi)) q hq0 (by omega)
      rw [e]
      simp only [Option.bind_some]
      by_cases c : r < 0
      · rw [if_pos (by simpa using c)]
        exact .inr ⟨_, rfl, by omega⟩
      · rw [if_neg (by simpa using c), hi2]
        obtain ⟨g1, g2, g3⟩ := hr.resolve_left c
        exact .inl ⟨_, rfl, g1, g2, g3⟩
    · intro q
      unfold laws_szTermS_l1b
      rw [if_neg (by simp)]

theorem szTermSS_ok (x : (List (List Term))) (hx : x.length ≤ maxLen ∧ ∀ y1 ∈ x, y1.length ≤ maxLen ∧ ∀ y2 ∈ y1, Term.ok y2) (l : Int) (h0 : 0 ≤ l) (h1 : l ≤ 1048576) : ∃ r, laws_szTermSS x l = some r ∧ (r < 0 ∨ (0 ≤ r ∧ r ≤ l ∧ (x.length ≤ 1048576 ∧ ∀ y0 ∈ x, y0.length ≤ 1048576 ∧ ∀ y1 ∈ y0, Term.sm 1048576 y1))) := by
  obtain ⟨hm, hx⟩ := hx
  unfold maxLen at hm
  unfold laws_szTermSS
  rw [w64_of (x := l - x.length) (by omega) (by omega)]
  by_cases c1 : l - (x.length : Int) < 0
  · rw [if_pos (by simpa using c1)]
    exact ⟨_, rfl, .inl (by omega)⟩
  · rw [if_neg (by simpa using c1)]
    have key := sz_loop x (fun y0 => y0.length ≤ 1048576 ∧ ∀ y1 ∈ y0, Term.sm 1048576 y1) (l - x.length) (b := laws_szTermSS_l1b x) ?_ ?_ (by omega)
    · obtain ⟨t, h2, h3⟩ := key
      unfold laws_szTermSS_l1
      rw [h2]
      cases t with
      | ret r => exact ⟨r, rfl, .inl h3⟩
      | nxt r => exact ⟨r, rfl, .inr ⟨h3.1, by have := h3.2.1; omega, by omega, h3.2.2⟩⟩
    · intro q i hi hq0 hq1
      unfold laws_szTermSS_l1b
      rw [if_pos (by simp; omega)]
      simp only [idx_nat hi, Option.bind_some]
      have hi2 : w64 ((i : Int) + 1) = ((i + 1 : Nat) : Int) := w64_nat (by omega)
      obtain ⟨r, e, hr⟩ := szTermS_ok x[i] (hx _ (List.getElem_mem hi)) q hq0 (by omega)
      rw [e]
      simp only [Option.bind_some]
      by_cases c : r < 0
      · rw [if_pos (by simpa using c)]
        exact .inr ⟨_, rfl, by omega⟩
      · rw [if_neg (by simpa using c), hi2]
        obtain ⟨g1, g2, g3⟩ := hr.resolve_left c
        exact .inl ⟨_, rfl, g1, g2, g3⟩
    · intro q
      unfold laws_szTermSS_l1b
      rw [if_neg (by simp)]

theorem szPack_ok (x : Pack) (hx : Pack.ok x) (l : Int) (h0 : 0 ≤ l) (h1 : l ≤ 1048576) : ∃ r, laws_szPack x l = some r ∧ (r < 0 ∨ (0 ≤ r ∧ r ≤ l ∧ (Pack.sm 1048576 x))) := by
  obtain ⟨k0, k1, k2, k3, k4, k5⟩ := hx
  unfold maxLen at *
  unfold laws_szPack
  rw [w64_of (x := l - x.Name.size) (by omega) (by omega)]
  by_cases c0 : l - (x.Name.size : Int) < 0
  · rw [if_pos (by simpa using c0)]
    exact ⟨_, rfl, .inl (by omega)⟩
  rw [if_neg (by simpa using c0)]
  obtain ⟨r3, e3, g3⟩ := szStringS_ok x.Provides k3 (l - x.Name.size) (by omega) (by omega)
  rw [e3]
  simp only [Option.bind_some]
  by_cases c3 : r3 < 0
  · rw [if_pos (by simpa using c3)]
    exact ⟨_, rfl, .inl (by omega)⟩
  rw [if_neg (by simpa using c3)]
  obtain ⟨p3, q3, z3⟩ := g3.resolve_left c3
  obtain ⟨r4, e4, g4⟩ := szTermSS_ok x.Needs k4 r3 (by omega) (by omega)
  rw [e4]
  simp only [Option.bind_some]
  by_cases c4 : r4 < 0
  · rw [if_pos (by simpa using c4)]
    exact ⟨_, rfl, .inl (by omega)⟩
  rw [if_neg (by simpa using c4)]
  obtain ⟨p4, q4, z4⟩ := g4.resolve_left c4
  obtain ⟨r5, e5, g5⟩ := szTermS_ok x.Bars k5 r4 (by omega) (by omega)
  rw [e5]
  simp only [Option.bind_some]
  by_cases c5 : r5 < 0
  · rw [if_pos (by simpa using c5)]
    exact ⟨_, rfl, .inl (by omega)⟩
  rw [if_neg (by simpa using c5)]
  obtain ⟨p5, q5, z5⟩ := g5.resolve_left c5
  exact ⟨_, rfl, .inr ⟨by omega, by omega, by omega, ⟨trivial, trivial, trivial⟩, trivial, z3, z4, z5⟩⟩

theorem szPackS_ok (x : (List Pack)) (hx : x.length ≤ maxLen ∧ ∀ y1 ∈ x, Pack.ok y1) (l : Int) (h0 : 0 ≤ l) (h1 : l ≤ 1048576) : ∃ r, laws_szPackS x l = some r ∧ (r < 0 ∨ (0 ≤ r ∧ r ≤ l ∧ (x.length ≤ 1048576 ∧ ∀ y0 ∈ x, Pack.sm 1048576 y0))) := by
  obtain ⟨hm, hx⟩ := hx
  unfold maxLen at hm
  unfold laws_szPackS
  rw [w64_of (x := l - x.length) (by omega) (by omega)]
  by_cases c1 : l - (x.length : Int) < 0
  · rw [if_pos (by simpa using c1)]
    exact ⟨_, rfl, .inl (by omega)⟩
  · rw [if_neg (by simpa using c1)]
    have key := sz_loop x (fun y0 => Pack.sm 1048576 y0) (l - x.length) (b := laws_szPackS_l1b x) ?_ ?_ (by omega)
    · obtain ⟨t, h2, h3⟩ := key
      unfold laws_szPackS_l1
      rw [h2]
      cases t with
      | ret r => exact ⟨r, rfl, .inl h3⟩
      | nxt r => exact ⟨r, rfl, .inr ⟨h3.1, by have := h3.2.1; omega, by omega, h3.2.2⟩⟩
    · intro q i hi hq0 hq1
      unfold laws_szPackS_l1b
      rw [if_pos (by simp; omega)]
      simp only [idx_nat hi, Option.bind_some]
      have hi2 : w64 ((i : Int) + 1) = ((i + 1 : Nat) : Int) := w64_nat (by omega)
      obtain ⟨r, e, hr⟩ := szPack_ok x[i] (hx _ (List.getElem_mem hi)) q hq0 (by omega)
      rw [e]
      simp only [Option.bind_some]
      by_cases c : r < 0
      · rw [if_pos (by simpa using c)]
        exact .inr ⟨_, rfl, by omega⟩
      · rw [if_neg (by simpa using c), hi2]
        obtain ⟨g1, g2, g3⟩ := hr.resolve_left c
        exact .inl ⟨_, rfl, g1, g2, g3⟩
    · intro q
      unfold laws_szPackS_l1b
      rw [if_neg (by simp)]

theorem toInt64S_eq (x : (List Int)) (hx : x.length ≤ 1049600 ∧ ∀ y0 ∈ x, True) : laws_toInt64S x = some x := by
  have hl := hx.1
  unfold laws_toInt64S
  have hm : ∀ z : Int, mk 8 (x.length : Int) z = some (List.replicate x.length z) := fun z => by
    unfold mk; rw [if_pos ⟨by omega, by simp; omega, by omega⟩]; simp
  rw [hm]
  simp only [Option.bind_some, laws_toInt64S_l1]
  rw [to_loop x ?_ ?_ _ (by simp)]
  · rfl
  · intro ys i hi hl2
    unfold laws_toInt64S_l1b
    rw [if_pos (by simp; omega)]
    have hi2 : w64 ((i : Int) + 1) = ((i + 1 : Nat) : Int) := w64_nat (by omega)
    simp only [idx_nat hi, idx_nat (show i < ys.length by omega), Option.bind_some, Int.toNat_natCast, hi2]
  · intro ys _
    unfold laws_toInt64S_l1b
    rw [if_neg (by simp)]

theorem toInt64SS_eq (x : (List (List Int))) (hx : x.length ≤ 1049600 ∧ ∀ y0 ∈ x, y0.length ≤ 1049600 ∧ ∀ y1 ∈ y0, True) : laws_toInt64SS x = some x := by
  have hl := hx.1
  unfold laws_toInt64SS
  have hm : ∀ z : (List Int), mk 24 (x.length : Int) z = some (List.replicate x.length z) := fun z => by
    unfold mk; rw [if_pos ⟨by omega, by simp; omega, by omega⟩]; simp
  rw [hm]
  simp only [Option.bind_some, laws_toInt64SS_l1]
  rw [to_loop x ?_ ?_ _ (by simp)]
  · rfl
  · intro ys i hi hl2
    unfold laws_toInt64SS_l1b
    rw [if_pos (by simp; omega)]
    have hi2 : w64 ((i : Int) + 1) = ((i + 1 : Nat) : Int) := w64_nat (by omega)
    simp only [idx_nat hi, idx_nat (show i < ys.length by omega), Option.bind_some, Int.toNat_natCast, hi2, toInt64S_eq x[i] (hx.2 _ (List.getElem_mem hi))]
  · intro ys _
    unfold laws_toInt64SS_l1b
    rw [if_neg (by simp)]

theorem toVersion_eq (x : Version) (hx : Version.sm 1049600 x) : laws_toVersion x = some x := by
  obtain ⟨h0, h1, h2⟩ := hx
  unfold laws_toVersion
  rfl

theorem toStringS_eq (x : (List ByteArray)) (hx : x.length ≤ 1049600 ∧ ∀ y0 ∈ x, y0.size ≤ 1049600) : laws_toStringS x = some x := by
  have hl := hx.1
  unfold laws_toStringS
  have hm : ∀ z : ByteArray, mk 16 (x.length : Int) z = some (List.replicate x.length z) := fun z => by
    unfold mk; rw [if_pos ⟨by omega, by simp; omega, by omega⟩]; simp
  rw [hm]
  simp only [Option.bind_some, laws_toStringS_l1]
  rw [to_loop x ?_ ?_ _ (by simp)]
  · rfl
  · intro ys i hi hl2
    unfold laws_toStringS_l1b
    rw [if_pos (by simp; omega)]
    have hi2 : w64 ((i : Int) + 1) = ((i + 1 : Nat) : Int) := w64_nat (by omega)
    simp only [idx_nat hi, idx_nat (show i < ys.length by omega), Option.bind_some, Int.toNat_natCast, hi2]
  · intro ys _
    unfold laws_toStringS_l1b
    rw [if_neg (by simp)]

theorem toTerm_eq (x : Term) (hx : Term.sm 1049600 x) : laws_toTerm x = some x := by
  obtain ⟨h0, h1, h2⟩ := hx
  unfold laws_toTerm
  simp only [toVersion_eq x.Low h1, toVersion_eq x.High h2, Option.bind_some]

theorem toTermS_eq (x : (List Term)) (hx : x.length ≤ 1049600 ∧ ∀ y0 ∈ x, Term.sm 1049600 y0) : laws_toTermS x = some x := by
  have hl := hx.1
  unfold laws_toTermS
  have hm : ∀ z : Term, mk 64 (x.length : Int) z = some (List.replicate x.length z) := fun z => by
    unfold mk; rw [if_pos ⟨by omega, by simp; omega, by omega⟩]; simp
  rw [hm]
  simp only [Option.bind_some, laws_toTermS_l1]
  rw [to_loop x ?_ ?_ _ (by simp)]
  · rfl
  · intro ys i hi hl2
    unfold laws_toTermS_l1b
    rw [if_pos (by simp; omega)]
    have hi2 : w64 ((i : Int) + 1) = ((i + 1 : Nat) : Int) := w64_nat (by omega)
    simp only [idx_nat hi, idx_nat (show i < ys.length by omega), Option.bind_some, Int.toNat_natCast, hi2, toTerm_eq x[i] (hx.2 _ (List.getElem_mem hi))]
  · intro ys _
    unfold laws_toTermS_l1b
    rw [if_neg (by simp)]

theorem toTermSS_eq (x : (List (List Term))) (hx : x.length ≤ 1049600 ∧ ∀ y0 ∈ x, y0.length ≤ 1049600 ∧ ∀ y1 ∈ y0, Term.sm 1049600 y1) : laws_toTermSS x = some x := by
  have hl := hx.1
  unfold laws_toTermSS
  have hm : ∀ z : (List Term), mk 24 (x.length : Int) z = some (List.replicate x.length z) := fun z => by
    unfold mk; rw [if_pos ⟨by omega, by simp; omega, by omega⟩]; simp
  rw [hm]
  simp only [Option.bind_some, laws_toTermSS_l1]
  rw [to_loop x ?_ ?_ _ (by simp)]
  · rfl
  · intro ys i hi hl2
    unfold laws_toTermSS_l1b
    rw [if_pos (by simp; omega)]
    have hi2 : w64 ((i : Int) + 1) = ((i + 1 : Nat) : Int) := w64_nat (by omega)
    simp only [idx_nat hi, idx_nat (show i < ys.length by omega), Option.bind_some, Int.toNat_natCast, hi2, toTermS_eq x[i] (hx.2 _ (List.getElem_mem hi))]
  · intro ys _
    unfold laws_toTermSS_l1b
    rw [if_neg (by simp)]

theorem toPack_eq (x : Pack) (hx : Pack.sm 1049600 x) : laws_toPack x = some x := by
  obtain ⟨h0, h1, h2, h3, h4, h5⟩ := hx
  unfold laws_toPack
  simp only [toVersion_eq x.Version h1, toStringS_eq x.Provides h3, toTermSS_eq x.Needs h4, toTermS_eq x.Bars h5, Option.bind_some]

theorem toPackS_eq (x : (List Pack)) (hx : x.length ≤ 1049600 ∧ ∀ y0 ∈ x, Pack.sm 1049600 y0) : laws_toPackS x = some x := by
  have hl := hx.1
  unfold laws_toPackS
  have hm : ∀ z : Pack, mk 120 (x.length : Int) z = some (List.replicate x.length z) := fun z => by
    unfold mk; rw [if_pos ⟨by omega, by simp; omega, by omega⟩]; simp
  rw [hm]
  simp only [Option.bind_some, laws_toPackS_l1]
  rw [to_loop x ?_ ?_ _ (by simp)]
  · rfl
  · intro ys i hi hl2
    unfold laws_toPackS_l1b
    rw [if_pos (by simp; omega)]
    have hi2 : w64 ((i : Int) + 1) = ((i + 1 : Nat) : Int) := w64_nat (by omega)
    simp only [idx_nat hi, idx_nat (show i < ys.length by omega), Option.bind_some, Int.toNat_natCast, hi2, toPack_eq x[i] (hx.2 _ (List.getElem_mem hi))]
  · intro ys _
    unfold laws_toPackS_l1b
    rw [if_neg (by simp)]

theorem eqInt64S_self (x : (List Int)) (hx : x.length ≤ 1049600 ∧ ∀ y0 ∈ x, True) : laws_eqInt64S x x = some true := by
  have hl := hx.1
  unfold laws_eqInt64S
  rw [if_neg (by simp)]
  unfold laws_eqInt64S_l1
  rw [eq_loop x.length ?_ ?_]
  · rfl
  · intro i hi
    unfold laws_eqInt64S_l1b
    rw [if_pos (by simp; omega)]
    have hi2 : w64 ((i : Int) + 1) = ((i + 1 : Nat) : Int) := w64_nat (by omega)
    simp [idx_nat hi, hi2]
  · unfold laws_eqInt64S_l1b
    rw [if_neg (by simp)]

theorem eqInt64SS_self (x : (List (List Int))) (hx : x.length ≤ 1049600 ∧ ∀ y0 ∈ x, y0.length ≤ 1049600 ∧ ∀ y1 ∈ y0, True) : laws_eqInt64SS x x = some true := by
  have hl := hx.1
  unfold laws_eqInt64SS
  rw [if_neg (by simp)]
  unfold laws_eqInt64SS_l1
  rw [eq_loop x.length ?_ ?_]
  · rfl
  · intro i hi
    unfold laws_eqInt64SS_l1b
    rw [if_pos (by simp; omega)]
    have hi2 : w64 ((i : Int) + 1) = ((i + 1 : Nat) : Int) := w64_nat (by omega)
    simp [idx_nat hi, hi2, eqInt64S_self x[i] (hx.2 _ (List.getElem_mem hi))]
  · unfold laws_eqInt64SS_l1b
    rw [if_neg (by simp)]

theorem eqVersion_self (x : Version) (hx : Version.sm 1049600 x) : laws_eqVersion x x = some true := by
  obtain ⟨h0, h1, h2⟩ := hx
  unfold laws_eqVersion
  simp

theorem eqStringS_self (x : (List ByteArray)) (hx : x.length ≤ 1049600 ∧ ∀ y0 ∈ x, y0.size ≤ 1049600) : laws_eqStringS x x = some true := by
  have hl := hx.1
  unfold laws_eqStringS
  rw [if_neg (by simp)]
  unfold laws_eqStringS_l1
  rw [eq_loop x.length ?_ ?_]
  · rfl
  · intro i hi
    unfold laws_eqStringS_l1b
    rw [if_pos (by simp; omega)]
    have hi2 : w64 ((i : Int) + 1) = ((i + 1 : Nat) : Int) := w64_nat (by omega)
    simp [idx_nat hi, hi2]
  · unfold laws_eqStringS_l1b
    rw [if_neg (by simp)]

theorem eqTerm_self (x : Term) (hx : Term.sm 1049600 x) : laws_eqTerm x x = some true := by
  obtain ⟨h0, h1, h2⟩ := hx
  unfold laws_eqTerm
  simp [eqVersion_self x.Low h1, eqVersion_self x.High h2]

theorem eqTermS_self (x : (List Term)) (hx : x.length ≤ 1049600 ∧ ∀ y0 ∈ x, Term.sm 1049600 y0) : laws_eqTermS x x = some true := by
  have hl := hx.1
  unfold laws_eqTermS
  rw [if_neg (by simp)]
  unfold laws_eqTermS_l1
  rw [eq_loop x.length ?_ ?_]
  · rfl
  · intro i hi
    unfold laws_eqTermS_l1b
    rw [if_pos (by simp; omega)]
    have hi2 : w64 ((i : Int) + 1) = ((i + 1 : Nat) : Int) := w64_nat (by omega)
    simp [idx_nat hi, hi2, eqTerm_self x[i] (hx.2 _ (List.getElem_mem hi))]
  · unfold laws_eqTermS_l1b
    rw [if_neg (by simp)]

theorem eqTermSS_self (x : (List (List Term))) (hx : x.length ≤ 1049600 ∧ ∀ y0 ∈ x, y0.length ≤ 1049600 ∧ ∀ y1 ∈ y0, Term.sm 1049600 y1) : laws_eqTermSS x x = some true := by
  have hl := hx.1
  unfold laws_eqTermSS
  rw [if_neg (by simp)]
  unfold laws_eqTermSS_l1
  rw [eq_loop x.length ?_ ?_]
  · rfl
  · intro i hi
    unfold laws_eqTermSS_l1b
    rw [if_pos (by simp; omega)]
    have hi2 : w64 ((i : Int) + 1) = ((i + 1 : Nat) : Int) := w64_nat (by omega)
    simp [idx_nat hi, hi2, eqTermS_self x[i] (hx.2 _ (List.getElem_mem hi))]
  · unfold laws_eqTermSS_l1b
    rw [if_neg (by simp)]

theorem eqPack_self (x : Pack) (hx : Pack.sm 1049600 x) : laws_eqPack x x = some true := by
  obtain ⟨h0, h1, h2, h3, h4, h5⟩ := hx
  unfold laws_eqPack
  simp [eqVersion_self x.Version h1, eqStringS_self x.Provides h3, eqTermSS_self x.Needs h4, eqTermS_self x.Bars h5]

theorem eqPackS_self (x : (List Pack)) (hx : x.length ≤ 1049600 ∧ ∀ y0 ∈ x, Pack.sm 1049600 y0) : laws_eqPackS x x = some true := by
  have hl := hx.1
  unfold laws_eqPackS
  rw [if_neg (by simp)]
  unfold laws_eqPackS_l1
  rw [eq_loop x.length ?_ ?_]
  · rfl
  · intro i hi
    unfold laws_eqPackS_l1b
    rw [if_pos (by simp; omega)]
    have hi2 : w64 ((i : Int) + 1) = ((i + 1 : Nat) : Int) := w64_nat (by omega)
    simp [idx_nat hi, hi2, eqPack_self x[i] (hx.2 _ (List.getElem_mem hi))]
  · unfold laws_eqPackS_l1b
    rw [if_neg (by simp)]

theorem Version.sm_mono {x : Version} (h : Version.sm 1048576 x) : Version.sm 1049600 x := ⟨trivial, trivial, trivial⟩

theorem Term.sm_mono {x : Term} (h : Term.sm 1048576 x) : Term.sm 1049600 x := ⟨(Nat.le_trans h.1 (by decide)), (Version.sm_mono h.2.1), (Version.sm_mono h.2.2)⟩

theorem Pack.sm_mono {x : Pack} (h : Pack.sm 1048576 x) : Pack.sm 1049600 x := ⟨(Nat.le_trans h.1 (by decide)), (Version.sm_mono h.2.1), trivial, ⟨Nat.le_trans h.2.2.2.1.1 (by decide), fun y0 z0 => (Nat.le_trans (h.2.2.2.1.2 y0 z0) (by decide))⟩, ⟨Nat.le_trans h.2.2.2.2.1.1 (by decide), fun y0 z0 => ⟨Nat.le_trans (h.2.2.2.2.1.2 y0 z0).1 (by decide), fun y1 z1 => (Term.sm_mono ((h.2.2.2.2.1.2 y0 z0).2 y1 z1))⟩⟩, ⟨Nat.le_trans h.2.2.2.2.2.1 (by decide), fun y0 z0 => (Term.sm_mono (h.2.2.2.2.2.2 y0 z0))⟩⟩

theorem FnExactCheckPlan_true (a1 : (List Pack)) (a2 : (List Int)) (a3 : (List (List Int))) (k0 : a1.length ≤ maxLen ∧ ∀ y1 ∈ a1, Pack.ok y1) (k1 : a2.length ≤ maxLen ∧ ∀ y1 ∈ a2, IntKind.i64.min ≤ y1 ∧ y1 ≤ IntKind.i64.max) (k2 : a3.length ≤ maxLen ∧ ∀ y1 ∈ a3, y1.length ≤ maxLen ∧ ∀ y2 ∈ y1, IntKind.i64.min ≤ y2 ∧ y2 ≤ IntKind.i64.max) (both : (a1.length ≤ 1048576 ∧ ∀ y0 ∈ a1, Pack.sm 1048576 y0) → (a2.length ≤ 1048576 ∧ ∀ y0 ∈ a2, True) → (a3.length ≤ 1048576 ∧ ∀ y0 ∈ a3, y0.length ≤ 1048576 ∧ ∀ y1 ∈ y0, True) → ∃ r, spec_CheckPlan a1 a2 a3 = some r ∧ impl_CheckPlan a1 a2 a3 = some r ∧ (True)) : laws_FnExactCheckPlan a1 a2 a3 = some true := by
  unfold laws_FnExactCheckPlan
  by_cases d1 : (a2.length : Int) > 1048576
  · rw [if_pos (by simpa using d1)]
  rw [if_neg (by simpa using d1)]
  have s_a2 : a2.length ≤ 1048576 ∧ ∀ y0 ∈ a2, True := ⟨by omega, fun _ _ => trivial⟩
  obtain ⟨r2, e2, g2⟩ := szPackS_ok a1 k0 1048576 (by omega) (by omega)
  rw [e2]
  simp only [Option.bind_some]
  by_cases d2 : r2 < 0
  · rw [if_pos (by simpa using d2)]
  rw [if_neg (by simpa using d2)]
  obtain ⟨p2, q2, s_a1⟩ := g2.resolve_left d2
  obtain ⟨r3, e3, g3⟩ := szInt64SS_ok a3 k2 r2 (by omega) (by omega)
  rw [e3]
  simp only [Option.bind_some]
  by_cases d3 : r3 < 0
  · rw [if_pos (by simpa using d3)]
  rw [if_neg (by simpa using d3)]
  obtain ⟨p3, q3, s_a3⟩ := g3.resolve_left d3
  obtain ⟨r, e1, e2, hr⟩ := both s_a1 s_a2 s_a3
  have m_a1 : a1.length ≤ 1049600 ∧ ∀ y0 ∈ a1, Pack.sm 1049600 y0 := ⟨Nat.le_trans s_a1.1 (by decide), fun y0 z0 => (Pack.sm_mono (s_a1.2 y0 z0))⟩
  have m_a2 : a2.length ≤ 1049600 ∧ ∀ y0 ∈ a2, True := ⟨Nat.le_trans s_a2.1 (by decide), fun y0 z0 => trivial⟩
  have m_a3 : a3.length ≤ 1049600 ∧ ∀ y0 ∈ a3, y0.length ≤ 1049600 ∧ ∀ y1 ∈ y0, True := ⟨Nat.le_trans s_a3.1 (by decide), fun y0 z0 => ⟨Nat.le_trans (s_a3.2 y0 z0).1 (by decide), fun y1 z1 => trivial⟩⟩
  simp [e1, e2, toPackS_eq a1 m_a1, eqPackS_self a1 m_a1, toInt64S_eq a2 m_a2, eqInt64S_self a2 m_a2, toInt64SS_eq a3 m_a3, eqInt64SS_self a3 m_a3]

/-! ### Texts as lists of bytes -/
def bl (s : ByteArray) : List Int := s.toList.map (fun b => (b.toNat : Int))

theorem bl_length (s : ByteArray) : (bl s).length = s.size := by
  unfold bl
  rw [List.length_map, ByteArray.toList_eq]
  rfl

theorem bidx_nat {s : ByteArray} {i : Nat} (h : i < (bl s).length) : bidx s (i : Int) = some (bl s)[i] := by
  unfold bidx
  rw [if_pos (by omega)]
  have hs : i < s.size := by rw [bl_length] at h; exact h
  have e : s[(i : Int).toNat]? = some s[i] := by simp [hs]
  rw [e]
  simp only [Option.map_some, bl, List.getElem_map]
  congr 2
  simp only [ByteArray.toList_eq]
  rfl

theorem bl_range {s : ByteArray} : ∀ c ∈ bl s, 0 ≤ c ∧ c ≤ 255 := by
  intro c hc
  unfold bl at hc
  obtain ⟨b, _, rfl⟩ := List.mem_map.1 hc
  have := b.toNat_lt
  omega

theorem less_irrefl : ∀ (a : List UInt8), Op.bytesLess a a = false
  | [] => rfl
  | x :: a => by simp [Op.bytesLess, less_irrefl a]

theorem less_trans : ∀ {a b c : List UInt8}, Op.bytesLess a b = true → Op.bytesLess b c = true → Op.bytesLess a c = true
  | _, [], _, h, _ => by simp [Op.bytesLess] at h
  | _, _ :: _, [], _, h => by simp [Op.bytesLess] at h
  | [], _ :: _, _ :: _, _, _ => by simp [Op.bytesLess]
  | x :: a, y :: b, z :: c, h1, h2 => by
    simp only [Op.bytesLess, Bool.or_eq_true, decide_eq_true_eq, Bool.and_eq_true, beq_iff_eq] at h1 h2 ⊢
    rcases h1 with h1 | ⟨rfl, h1⟩
    · rcases h2 with h2 | ⟨rfl, h2⟩
      · exact .inl (UInt8.lt_trans h1 h2)
      · exact .inl h1
    · rcases h2 with h2 | ⟨rfl, h2⟩
      · exact .inl h2
      · exact .inr ⟨rfl, less_trans h1 h2⟩

theorem less_tri : ∀ (a b : List UInt8), Op.bytesLess a b = false → a ≠ b → Op.bytesLess b a = true
  | [], [], _, h => absurd rfl h
  | [], _ :: _, h, _ => by simp [Op.bytesLess] at h
  | _ :: _, [], _, _ => by simp [Op.bytesLess]
  | x :: a, y :: b, h, hne => by
    simp only [Op.bytesLess, Bool.or_eq_false_iff, decide_eq_false_iff_not, Bool.and_eq_false_iff, beq_eq_false_iff_ne] at h
    simp only [Op.bytesLess, Bool.or_eq_true, decide_eq_true_eq, Bool.and_eq_true, beq_iff_eq]
    by_cases hxy : x = y
    · subst hxy
      refine .inr ⟨rfl, less_tri a b ?_ (fun e => hne (by rw [e]))⟩
      rcases h.2 with h' | h'
      · exact absurd rfl h'
      · exact h'
    · refine .inl ?_
      have := h.1
      rw [UInt8.lt_iff_toNat_lt] at this ⊢
      have : x.toNat ≠ y.toNat := fun e => hxy (UInt8.toNat_inj.1 e)
      omega

theorem toList_inj {a b : ByteArray} (h : a.toList = b.toList) : a = b := by
  rw [ByteArray.toList_eq, ByteArray.toList_eq] at h
  cases a; cases b
  simp at h
  rw [h]

theorem slt_irrefl (a : ByteArray) : slt a a = false := less_irrefl _
theorem slt_trans {a b c : ByteArray} (h1 : slt a b = true) (h2 : slt b c = true) : slt a c = true := less_trans h1 h2
theorem slt_tri {a b : ByteArray} (h : slt a b = false) (hne : a ≠ b) : slt b a = true := less_tri _ _ h (fun e => hne (toList_inj e))
theorem slt_ne {a b : ByteArray} (h : slt a b = true) : a ≠ b := fun e => by subst e; rw [slt_irrefl] at h; cases h
theorem slt_asymm {a b : ByteArray} (h : slt a b = true) : slt b a = false := by
  cases h2 : slt b a with
  | false => rfl
  | true => have := slt_trans h h2; rw [slt_irrefl] at this; cases this
theorem seq_iff {a b : ByteArray} : seq a b = true ↔ a = b := by
  unfold seq
  simp only [beq_iff_eq]
  exact ⟨toList_inj, fun e => by rw [e]⟩
theorem seq_eq (a b : ByteArray) : seq a b = decide (a = b) := by
  rw [Bool.eq_iff_iff, seq_iff]; simp

theorem in_eq (a b c : Int) : spec_l1In a b c = some (decide (a ≥ b) && decide (a ≤ c)) := by
  unfold spec_l1In
  cases decide (a ≥ b) <;> rfl
/-! ### slices.DeleteFunc -/
section del
variable {α : Type} (p : α → Bool)

theorem lsub_of {xs : List α} {l h : Nat} (h1 : l ≤ h) (h2 : h ≤ xs.length) : lsub xs (l : Int) (h : Int) = some ((xs.drop l).take (h - l)) := by
  unfold lsub
  rw [if_pos (by omega)]
  rfl

theorem clrw_of {xs : List α} {l n : Nat} {a : α} (h : l + n ≤ xs.length) : clrw xs (l : Int) n a = some (xs.take l ++ List.replicate n a ++ xs.drop (l + n)) := by
  unfold clrw
  rw [if_pos (by omega)]
  simp [ovr]

/-- The first one that is meant; else the end. -/
theorem ixf_loop {R : Type} (a1 : List α) (out : Int → R) {b : Int → Option (Lp Int (Fl R Unit))} (hl : a1.length < 9223372036854775807)
    (hstep : ∀ (i : Nat) (hi : i < a1.length), b (i : Int) = some (if p a1[i] then .done (.ret (out i)) else .go ((i + 1 : Nat) : Int))) (hend : b (a1.length : Int) = some (.done (.nxt ()))) :
    ∃ t, loop b 0 = some t ∧ ((t = .nxt () ∧ ∀ x ∈ a1, p x = false) ∨ ∃ i : Nat, ∃ hi : i < a1.length, t = .ret (out i) ∧ p a1[i] = true ∧ ∀ x ∈ a1.take i, p x = false) := by
  refine loop_up (b := b) (fun i s => s = (i : Int) ∧ ∀ x ∈ a1.take i, p x = false) a1.length _ (by
    rintro i s hi ⟨rfl, hn⟩
    have e := hstep i hi
    cases hp : p a1[i]
    · rw [hp] at e
      refine .inl ⟨_, e, rfl, fun x hx => ?_⟩
      rw [List.take_succ_eq_append_getElem hi] at hx
      rcases List.mem_append.1 hx with hx | hx
      · exact hn x hx
      · simp at hx; rw [hx]; exact hp
    · rw [hp] at e
      exact .inr ⟨_, e, .inr ⟨i, hi, rfl, hp, hn⟩⟩) (by
    rintro s ⟨rfl, hn⟩
    rw [List.take_length] at hn
    exact ⟨_, hend, .inl ⟨rfl, hn⟩⟩) a1.length 0 0 (by omega) ⟨rfl, by simp⟩

theorem set_take {xs : List α} {i : Nat} {x : α} (h : i < xs.length) : (xs.set i x).take (i + 1) = xs.take i ++ [x] := by
  rw [List.take_succ_eq_append_getElem (by simpa using h), List.take_set_of_le (Nat.le_refl _)]
  simp

theorem set_drop {xs : List α} {i j : Nat} {x : α} (h : i < j) : (xs.set i x).drop j = xs.drop j := by
  rw [List.drop_set_of_lt h]

/-- What stays is moved to the front. -/
theorem del_loop (a : List α) {b : (List α × Int × Int) → Option (Lp (List α × Int × Int) (List α × Int))} (hl : a.length < 9223372036854775807)
    (hstep : ∀ (xs : List α) (i j : Nat) (hj : j < xs.length), i ≤ j → xs.length = a.length → b (xs, (i : Int), (j : Int)) = some (.go (if p xs[j] then (xs, (i : Int), ((j + 1 : Nat) : Int)) else (xs.set i xs[j], ((i + 1 : Nat) : Int), ((j + 1 : Nat) : Int)))))
    (hend : ∀ (xs : List α) (i : Nat), xs.length = a.length → b (xs, (i : Int), (xs.length : Int)) = some (.done (xs, (i : Int)))) (i0 j0 : Nat) (hij : i0 ≤ j0) (hj0 : j0 ≤ a.length) (h0 : a.take i0 = (a.take j0).filter (fun x => !p x)) :
    ∃ ys : List α, loop b (a, (i0 : Int), (j0 : Int)) = some (ys, ((a.filter (fun x => !p x)).length : Int)) ∧ ys.length = a.length ∧ ys.take (a.filter (fun x => !p x)).length = a.filter (fun x => !p x) := by
  obtain ⟨t, e, h⟩ := loop_up (b := b) (fun j s => s.1.length = a.length ∧ s.1.drop j = a.drop j ∧ s.2.2 = (j : Int) ∧ ∃ i : Nat, s.2.1 = (i : Int) ∧ i ≤ j ∧ s.1.take i = (a.take j).filter (fun x => !p x)) a.length
    (fun t => t.1.length = a.length ∧ ∃ i : Nat, t.2 = (i : Int) ∧ i ≤ a.length ∧ t.1.take i = a.filter (fun x => !p x)) (by
    rintro j ⟨xs, i', j'⟩ hj ⟨hxl, hxd, hjj, i, hi, hle, ht⟩
    simp only at hxl hxd hjj hi ht
    subst hjj hi
    have hjx : j < xs.length := by omega
    have hx : xs[j] = a[j] := by
      have := congrArg (fun l => l[0]?) hxd
      simp only [List.getElem?_drop, Nat.add_zero] at this
      rw [List.getElem?_eq_getElem hjx, List.getElem?_eq_getElem hj] at this
      exact Option.some.inj this
    have e := hstep xs i j hjx hle hxl
    have htk : (a.take (j + 1)).filter (fun x => !p x) = (a.take j).filter (fun x => !p x) ++ (if p a[j] then [] else [a[j]]) := by
      rw [List.take_succ_eq_append_getElem hj, List.filter_append]
      cases h : p a[j] <;> simp [h]
    have hd1 : a.drop (j + 1) = xs.drop (j + 1) := by
      have := congrArg (List.drop 1) hxd
      simpa [List.drop_drop] using this.symm
    rw [hx] at e
    cases hp : p a[j]
    · rw [hp] at e htk
      refine .inl ⟨_, e, by simpa using hxl, ?_, rfl, i + 1, rfl, by omega, ?_⟩
      · show (xs.set i a[j]).drop (j + 1) = a.drop (j + 1)
        rw [set_drop (by omega), hd1]
      · show (xs.set i a[j]).take (i + 1) = _
        rw [set_take (by omega), htk, ht]
        rfl
    · rw [hp] at e htk
      refine .inl ⟨_, e, hxl, ?_, rfl, i, rfl, by omega, ?_⟩
      · exact hd1.symm
      · show xs.take i = _
        rw [htk, ht]
        simp) (by
    rintro ⟨xs, i', j'⟩ ⟨hxl, hxd, hjj, i, hi, hle, ht⟩
    simp only at hxl hxd hjj hi ht
    subst hjj hi
    have e := hend xs i hxl
    rw [hxl] at e
    refine ⟨_, e, hxl, i, rfl, hle, ?_⟩
    rw [List.take_length] at ht
    exact ht) (a.length - j0) j0 (a, (i0 : Int), (j0 : Int)) (by omega) ⟨rfl, rfl, rfl, i0, rfl, hij, h0⟩
  obtain ⟨ys, i'⟩ := t
  obtain ⟨h1, i, h2, h3, h4⟩ := h
  simp only at h1 h2 h4
  subst h2
  have hlen : i = (a.filter (fun x => !p x)).length := by rw [← h4]; simp; omega
  subst hlen
  exact ⟨ys, e, h1, h4⟩

theorem fin_del {a ys : List α} (zero : α) (h1 : ys.length = a.length) (h2 : ys.take (a.filter (fun x => !p x)).length = a.filter (fun x => !p x)) :
    (lsub ys ((a.filter (fun x => !p x)).length : Int) (ys.length : Int)).bind (fun r => (clrw ys ((a.filter (fun x => !p x)).length : Int) r.length zero).bind fun z => (lsub z 0 ((a.filter (fun x => !p x)).length : Int)).bind fun q => some q) = some (a.filter (fun x => !p x)) := by
  have hle : (a.filter (fun x => !p x)).length ≤ ys.length := by rw [h1]; exact List.length_filter_le _ _
  rw [lsub_of hle (Nat.le_refl _)]
  simp only [Option.bind_some]
  rw [clrw_of (by simp; omega)]
  simp only [Option.bind_some]
  have : lsub (List.take (List.filter (fun x => !p x) a).length ys ++ List.replicate (List.take (ys.length - (List.filter (fun x => !p x) a).length) (List.drop (List.filter (fun x => !p x) a).length ys)).length zero ++
          List.drop ((List.filter (fun x => !p x) a).length + (List.take (ys.length - (List.filter (fun x => !p x) a).length) (List.drop (List.filter (fun x => !p x) a).length ys)).length) ys) ((0 : Nat) : Int) ((a.filter (fun x => !p x)).length : Int) = some (a.filter (fun x => !p x)) := by
    rw [lsub_of (by omega) (by simp; omega)]
    rw [h2]
    simp
  exact (congrArg (fun o => Option.bind o fun q => some q) this)
end del
/-! ### Walks that stop at the first one -/
def scanL {α R : Type} (g : Nat → α → Option R) : Nat → List α → Option R
  | _, [] => none
  | i, x :: xs => match g i x with
    | some r => some r
    | none => scanL g (i + 1) xs

def frs {R : Type} : Option R → Fl R Unit
  | some r => .ret r
  | none => .nxt ()

theorem loop_scanI {α R : Type} (xs : List α) (g : Nat → α → Option R) {b : Int → Option (Lp Int (Fl R Unit))}
    (hstep : ∀ (i : Nat) (hi : i < xs.length), b (i : Int) = some (match g i xs[i] with | some r => .done (.ret r) | none => .go ((i + 1 : Nat) : Int))) (hend : b (xs.length : Int) = some (.done (.nxt ()))) :
    ∀ (k i : Nat), i + k = xs.length → loop b (i : Int) = some (frs (scanL g i (xs.drop i)))
  | 0, i, h => by
    have e : i = xs.length := by omega
    subst e
    rw [loop_eq, hend, List.drop_length]
    rfl
  | k + 1, i, h => by
    have hi : i < xs.length := by omega
    have ih := loop_scanI xs g hstep hend k (i + 1) (by omega)
    rw [loop_eq, hstep i hi, List.drop_eq_getElem_cons hi]
    simp only [scanL]
    cases g i xs[i] with
    | some r => rfl
    | none => exact ih

theorem loop_scan {α R : Type} (xs : List α) (g : Nat → α → Option R) {b : Int → Option (Lp Int (Fl R Unit))}
    (hstep : ∀ (i : Nat) (hi : i < xs.length), b (i : Int) = some (match g i xs[i] with | some r => .done (.ret r) | none => .go ((i + 1 : Nat) : Int))) (hend : b (xs.length : Int) = some (.done (.nxt ()))) :
    loop b 0 = some (frs (scanL g 0 xs)) := by
  have := loop_scanI xs g hstep hend xs.length 0 (by omega)
  simpa using this

theorem frs_go {R T : Type} (o : Option R) (f : R → Option T) (h : Unit → Option T) : (some (frs o)).bind (Fl.go f h) = match o with | some r => f r | none => h () := by
  cases o <;> rfl

theorem scan_congr {α R : Type} {g g' : Nat → α → Option R} : ∀ (xs : List α) (i : Nat), (∀ j x, x ∈ xs → g j x = g' j x) → scanL g i xs = scanL g' i xs
  | [], _, _ => rfl
  | x :: xs, i, h => by
    simp only [scanL]
    rw [h i x (by simp), scan_congr xs (i + 1) (fun j y hy => h j y (by simp [hy]))]

/-- The place of the first one. -/
theorem scan_place {α : Type} (p : α → Bool) : ∀ (xs : List α) (i : Nat), ((scanL (fun j x => if p x then some (j : Int) else none) i xs).getD (-1) ≥ 0) ↔ xs.any p = true
  | [], i => by simp [scanL]
  | x :: xs, i => by
    simp only [scanL]
    cases h : p x
    · simp only [Bool.false_eq_true, if_false, List.any_cons, h, Bool.false_or]
      exact scan_place p xs (i + 1)
    · simp [h]

theorem scan_bool {α : Type} (p : α → Bool) : ∀ (xs : List α) (i : Nat), (scanL (fun _ x => if p x then some true else none) i xs).getD false = xs.any p
  | [], i => rfl
  | x :: xs, i => by
    simp only [scanL]
    cases h : p x
    · simp only [Bool.false_eq_true, if_false, List.any_cons, h, Bool.false_or]
      exact scan_bool p xs (i + 1)
    · simp [h]

def foldI {α A : Type} (f : Nat → A → α → A) : Nat → List α → A → A
  | _, [], a => a
  | i, x :: xs, a => foldI f (i + 1) xs (f i a x)

theorem loop_foldI {α A : Type} (xs : List α) (f : Nat → A → α → A) (I : Nat → A → Prop) {b : (A × Int) → Option (Lp (A × Int) A)}
    (hstep : ∀ (i : Nat) (a : A) (hi : i < xs.length), I i a → b (a, (i : Int)) = some (.go (f i a xs[i], ((i + 1 : Nat) : Int))) ∧ I (i + 1) (f i a xs[i])) (hend : ∀ a, b (a, (xs.length : Int)) = some (.done a)) :
    ∀ (k i : Nat) (a : A), i + k = xs.length → I i a → loop b (a, (i : Int)) = some (foldI f i (xs.drop i) a) ∧ I xs.length (foldI f i (xs.drop i) a)
  | 0, i, a, h, hI => by
    have e : i = xs.length := by omega
    subst e
    rw [loop_eq, hend, List.drop_length]
    exact ⟨rfl, hI⟩
  | k + 1, i, a, h, hI => by
    have hi : i < xs.length := by omega
    obtain ⟨h1, h2⟩ := hstep i a hi hI
    have ih := loop_foldI xs f I hstep hend k (i + 1) _ (by omega) h2
    rw [loop_eq, h1, List.drop_eq_getElem_cons hi]
    exact ih
/-! ### Names, versions, terms -/
def letB (c : Int) : Bool := decide (97 ≤ c) && decide (c ≤ 122)
def digitB (c : Int) : Bool := decide (48 ≤ c) && decide (c ≤ 57)
def namB (c : Int) : Bool := letB c || (digitB c || c == 95)

theorem l1Letter_eq (c : Int) : spec_l1Letter c = some (letB c) := by
  unfold spec_l1Letter letB
  by_cases h : c ≥ 97 <;> simp [h]

theorem l1Digit_eq (c : Int) : spec_l1Digit c = some (digitB c) := by
  unfold spec_l1Digit digitB
  by_cases h : c ≥ 48 <;> simp [h]

theorem l1Name_eq (c : Int) : spec_l1Name c = some (namB c) := by
  unfold spec_l1Name namB
  simp only [l1Letter_eq, l1Digit_eq, Option.bind_some]
  cases letB c <;> cases digitB c <;> simp

theorem isNameByte_eq (c : Int) : impl_isNameByte c = some (namB c) := by
  unfold impl_isNameByte namB letB digitB
  by_cases h1 : c ≥ 97 <;> by_cases h2 : c ≤ 122 <;> by_cases h3 : c ≥ 48 <;> by_cases h4 : c ≤ 57 <;> simp [h1, h2, h3, h4]

def nameScan (s : ByteArray) : Int := (scanL (fun _ c => if namB c then none else some (5 : Int)) 0 (bl s)).getD 0
/-- What is wrong with a name. -/
def NF (s : ByteArray) : Int := if s.size < 1 then 5 else if s.size > 12 then 5 else if letB ((bl s).headD 0) then nameScan s else 5

theorem bl_head {s : ByteArray} (h : 1 ≤ s.size) : bidx s 0 = some ((bl s).headD 0) := by
  have h' : 0 < (bl s).length := by rw [bl_length]; exact h
  have e := bidx_nat (s := s) (i := 0) h'
  rw [show ((0 : Nat) : Int) = 0 from rfl] at e
  rw [e]
  have : (bl s)[0]? = some ((bl s).headD 0) := by
    cases hb : bl s with
    | nil => rw [hb] at h'; simp at h'
    | cons c l => rfl
  rw [List.getElem?_eq_getElem h'] at this
  exact this

theorem spec_nameLoop (s : ByteArray) (h : s.size ≤ 12) : spec_NameFault_l1 s 0 = some (frs (scanL (fun _ c => if namB c then none else some (5 : Int)) 0 (bl s))) := by
  unfold spec_NameFault_l1
  refine loop_scan (bl s) _ (fun i hi => ?_) ?_
  · have hs : i < s.size := by rw [← bl_length]; exact hi
    unfold spec_NameFault_l1b
    rw [if_pos (by simp; omega), bidx_nat hi]
    simp only [Option.bind_some, l1Name_eq]
    rw [w64_nat (by omega)]
    cases namB (bl s)[i] <;> rfl
  · unfold spec_NameFault_l1b
    rw [if_neg (by rw [bl_length]; simp)]

theorem impl_nameLoop (s : ByteArray) (h : s.size ≤ 12) : impl_NameFault_l1 s 0 = some (frs (scanL (fun _ c => if namB c then none else some (5 : Int)) 0 (bl s))) := by
  unfold impl_NameFault_l1
  refine loop_scan (bl s) _ (fun i hi => ?_) ?_
  · have hs : i < s.size := by rw [← bl_length]; exact hi
    unfold impl_NameFault_l1b
    rw [if_pos (by simp; omega), bidx_nat hi]
    simp only [Option.bind_some, isNameByte_eq]
    rw [w64_nat (by omega)]
    cases namB (bl s)[i] <;> rfl
  · unfold impl_NameFault_l1b
    rw [if_neg (by rw [bl_length]; simp)]

theorem NameFault_spec (s : ByteArray) : spec_NameFault s = some (NF s) := by
  unfold spec_NameFault NF
  by_cases h1 : s.size < 1
  · rw [if_pos (show decide ((s.size : Int) < 1) = true by rw [decide_eq_true_eq]; omega), if_pos h1]; rfl
  rw [if_neg (show ¬ decide ((s.size : Int) < 1) = true by rw [decide_eq_true_eq]; omega), if_neg h1]
  by_cases h2 : s.size > 12
  · rw [if_pos (show decide ((s.size : Int) > 12) = true by rw [decide_eq_true_eq]; omega), if_pos h2]; rfl
  rw [if_neg (show ¬ decide ((s.size : Int) > 12) = true by rw [decide_eq_true_eq]; omega), if_neg h2, bl_head (by omega), spec_nameLoop s (by omega)]
  simp only [Option.bind_some, l1Letter_eq]
  cases h3 : letB ((bl s).headD 0)
  · rfl
  · unfold nameScan
    cases scanL (fun _ c => if namB c then none else some (5 : Int)) 0 (bl s) <;> rfl

theorem headTest (c : Int) : (if decide (c < 97) = true then some true else some (decide (c > 122))) = some (!(letB c)) := by
  unfold letB
  by_cases h3 : c < 97
  · rw [if_pos (by rw [decide_eq_true_eq]; exact h3)]
    have : decide (97 ≤ c) = false := by rw [decide_eq_false_iff_not]; omega
    rw [this]; rfl
  · rw [if_neg (by rw [decide_eq_true_eq]; exact h3)]
    have : decide (97 ≤ c) = true := by rw [decide_eq_true_eq]; omega
    rw [this]
    congr 1
    rw [Bool.true_and, Bool.eq_iff_iff]
    simp

theorem NameFault_impl (s : ByteArray) : impl_NameFault s = some (NF s) := by
  unfold impl_NameFault NF
  by_cases h1 : s.size < 1
  · rw [if_pos (show decide ((s.size : Int) < 1) = true by rw [decide_eq_true_eq]; omega), if_pos h1]; rfl
  rw [if_neg (show ¬ decide ((s.size : Int) < 1) = true by rw [decide_eq_true_eq]; omega), if_neg h1]
  by_cases h2 : s.size > 12
  · rw [if_pos (show decide ((s.size : Int) > 12) = true by rw [decide_eq_true_eq]; omega), if_pos h2]; rfl
  rw [if_neg (show ¬ decide ((s.size : Int) > 12) = true by rw [decide_eq_true_eq]; omega), if_neg h2, bl_head (by omega), impl_nameLoop s (by omega)]
  simp only [Option.bind_some, headTest]
  cases h3 : letB ((bl s).headD 0)
  · rfl
  · unfold nameScan
    cases scanL (fun _ c => if namB c then none else some (5 : Int)) 0 (bl s) <;> rfl

def inB (a b c : Int) : Bool := decide (b ≤ a) && decide (a ≤ c)
theorem l1In_eq (a b c : Int) : spec_l1In a b c = some (inB a b c) := by
  unfold spec_l1In inB
  by_cases h : a ≥ b <;> simp [h]
theorem within_eq (a b c : Int) : impl_within a b c = some (inB a b c) := by
  unfold impl_within inB
  by_cases h : b ≤ a <;> simp [h]

/-- What is wrong with a version. -/
def VF (v : Version) : Int := if inB v.A 0 999 && inB v.B 0 999 && inB v.C 0 999 then 0 else 3

theorem VersionFault_spec (v : Version) : spec_VersionFault v = some (VF v) := by
  unfold spec_VersionFault VF
  simp only [l1In_eq, Option.bind_some]
  cases inB v.A 0 999 <;> cases inB v.B 0 999 <;> cases inB v.C 0 999 <;> rfl
theorem VersionFault_impl (v : Version) : impl_VersionFault v = some (VF v) := by
  unfold impl_VersionFault VF
  simp only [within_eq, Option.bind_some]
  cases inB v.A 0 999 <;> cases inB v.B 0 999 <;> cases inB v.C 0 999 <;> rfl

def sgn (a b : Int) : Int := if a < b then -1 else if a > b then 1 else 0
theorem l1Sign_eq (a b : Int) : spec_l1Sign a b = some (sgn a b) := by
  unfold spec_l1Sign sgn
  by_cases h : a < b
  · simp [h]
  · by_cases h2 : a > b <;> simp [h, h2]
theorem cmp_eq (a b : Int) : cmp_Compare_int64 a b = some (sgn a b) := by
  unfold cmp_Compare_int64 cmp_isNaN_int64 sgn
  simp only [Option.bind_some, bne_self_eq_false, Bool.false_eq_true, if_false]
  by_cases h : a < b
  · simp [h]
  · by_cases h2 : a > b <;> simp [h, h2]

/-- Versions in order. -/
def cmpV (a b : Version) : Int := if sgn a.A b.A ≠ 0 then sgn a.A b.A else if sgn a.B b.B ≠ 0 then sgn a.B b.B else sgn a.C b.C

theorem CompareVersions_spec (a b : Version) : spec_CompareVersions a b = some (cmpV a b) := by
  unfold spec_CompareVersions cmpV
  simp only [l1Sign_eq, Option.bind_some]
  by_cases h1 : sgn a.A b.A = 0
  · by_cases h2 : sgn a.B b.B = 0 <;> simp [h1, h2]
  · simp [h1]

theorem firstOf (l : List Int) (h : l.length ≤ 10) {b : Int → Option (Lp Int (Fl Int Unit))} (hb : b = cmp_Or_int_l1b l ∨ b = impl_firstCode_l1b l) : loop b 0 = some (frs (scanL (fun _ c => if c != 0 then some c else none) 0 l)) := by
  refine loop_scan l _ (fun i hi => ?_) ?_
  · rcases hb with rfl | rfl
    · unfold cmp_Or_int_l1b
      rw [if_pos (by simp; omega), idx_nat hi]
      simp only [Option.bind_some]
      rw [w64_nat (by omega)]
      cases l[i] != 0 <;> rfl
    · unfold impl_firstCode_l1b
      rw [if_pos (by simp; omega), idx_nat hi]
      simp only [Option.bind_some]
      rw [w64_nat (by omega)]
      cases l[i] != 0 <;> rfl
  · rcases hb with rfl | rfl
    · unfold cmp_Or_int_l1b
      rw [if_neg (by simp)]
    · unfold impl_firstCode_l1b
      rw [if_neg (by simp)]

theorem compare_impl (a b : Version) : impl_compare a b = some (cmpV a b) := by
  unfold impl_compare cmpV cmp_Or_int cmp_Or_int_l1
  simp only [cmp_eq, Option.bind_some]
  rw [firstOf _ (by simp) (.inl rfl), frs_go]
  by_cases h1 : sgn a.A b.A = 0
  · by_cases h2 : sgn a.B b.B = 0
    · by_cases h3 : sgn a.C b.C = 0 <;> simp [h1, h2, h3, scanL]
    · simp [h1, h2, scanL]
  · simp [h1, scanL]

theorem cmpV_swap (a b : Version) : cmpV b a = - cmpV a b := by
  unfold cmpV sgn
  split <;> split <;> omega

/-- Two versions are the same. -/
def eqV (a b : Version) : Bool := a.A == b.A && (a.B == b.B && (a.C == b.C && true))
theorem eqV_iff (a b : Version) : eqV a b = true ↔ a = b := by
  unfold eqV
  cases a; cases b
  simp [Version.mk.injEq]
theorem cmpV_zero (a b : Version) : (cmpV a b == 0) = eqV a b := by
  unfold cmpV eqV sgn
  rw [Bool.eq_iff_iff]
  simp only [beq_iff_eq, Bool.and_eq_true, Bool.and_true]
  constructor
  · intro h
    split at h <;> omega
  · intro ⟨h1, h2, h3⟩
    split <;> omega

def topV : Version := { A := 1000, B := 0, C := 0 }

/-- What is wrong with a term. -/
def TF (t : Term) : Int := if NF t.Name ≠ 0 then NF t.Name else if VF t.Low ≠ 0 then VF t.Low else
  if eqV t.High topV = false ∧ VF t.High ≠ 0 then 3 else if cmpV t.Low t.High ≥ 0 then 1 else 0

theorem TermFault_spec (t : Term) : spec_TermFault t = some (TF t) := by
  unfold spec_TermFault TF spec_l1Top
  simp only [NameFault_spec, VersionFault_spec, CompareVersions_spec, Option.bind_some]
  show (if (NF t.Name != 0) = true then some (NF t.Name) else if (VF t.Low != 0) = true then some (VF t.Low) else (if (!(eqV t.High topV)) = true then some (VF t.High != 0) else some false).bind fun v => if v = true then some 3 else if decide (cmpV t.Low t.High ≥ 0) = true then some 1 else some 0) = _
  generalize NF t.Name = a
  generalize VF t.Low = b
  generalize eqV t.High topV = c
  generalize VF t.High = d
  generalize cmpV t.Low t.High = e
  by_cases h1 : a = 0
  · by_cases h2 : b = 0
    · by_cases h4 : d = 0 <;> by_cases h5 : e ≥ 0 <;> cases c <;> simp [h1, h2, h4, h5]
    · simp [h1, h2]
  · simp [h1]

theorem TermFault_impl (t : Term) : impl_TermFault t = some (TF t) := by
  unfold impl_TermFault TF impl_top
  simp only [NameFault_impl, VersionFault_impl, compare_impl, Option.bind_some]
  show (if (NF t.Name != 0) = true then some (NF t.Name) else if (VF t.Low != 0) = true then some (VF t.Low) else (if (!(eqV t.High topV)) = true then some (VF t.High != 0) else some false).bind fun v => if v = true then some 3 else if decide (cmpV t.Low t.High ≥ 0) = true then some 1 else some 0) = _
  generalize NF t.Name = a
  generalize VF t.Low = b
  generalize eqV t.High topV = c
  generalize VF t.High = d
  generalize cmpV t.Low t.High = e
  by_cases h1 : a = 0
  · by_cases h2 : b = 0
    · by_cases h4 : d = 0 <;> by_cases h5 : e ≥ 0 <;> cases c <;> simp [h1, h2, h4, h5]
    · simp [h1, h2]
  · simp [h1]

/-- The first fault of terms. -/
def tsF (l : List Term) : Int := (scanL (fun _ t => if TF t != 0 then some (TF t) else none) 0 l).getD 0

theorem l2Terms_spec (l : List Term) (h : l.length ≤ 1048576) : spec_l2Terms l = some (tsF l) := by
  have key := loop_scan l (fun _ t => if TF t != 0 then some (TF t) else none) (b := spec_l2Terms_l1b l) (by
    intro i hi
    unfold spec_l2Terms_l1b
    rw [if_pos (by simp; omega), idx_nat hi]
    simp only [Option.bind_some, TermFault_spec]
    rw [w64_nat (by omega)]
    cases TF l[i] != 0 <;> rfl) (by
    unfold spec_l2Terms_l1b
    rw [if_neg (by simp)])
  unfold spec_l2Terms spec_l2Terms_l1 tsF
  rw [key, frs_go]
  cases scanL (fun _ t => if TF t != 0 then some (TF t) else none) 0 l <;> rfl

theorem termsFault_impl (l : List Term) (h : l.length ≤ 1048576) : impl_termsFault l = some (tsF l) := by
  have key := loop_scan l (fun _ t => if TF t != 0 then some (TF t) else none) (b := impl_termsFault_l1b l) (by
    intro i hi
    unfold impl_termsFault_l1b
    rw [if_pos (by simp; omega), idx_nat hi]
    simp only [Option.bind_some, TermFault_impl]
    rw [w64_nat (by omega)]
    cases TF l[i] != 0 <;> rfl) (by
    unfold impl_termsFault_l1b
    rw [if_neg (by simp)])
  unfold impl_termsFault impl_termsFault_l1 tsF
  rw [key, frs_go]
  cases scanL (fun _ t => if TF t != 0 then some (TF t) else none) 0 l <;> rfl
/-! ### Packages, catalogs, sets -/
theorem seq_comm (a b : ByteArray) : seq a b = seq b a := by
  unfold seq
  rw [Bool.eq_iff_iff]
  simp only [beq_iff_eq]
  exact eq_comm

theorem scan_none {α R : Type} (g : Nat → α → Option R) : ∀ (xs : List α) (i : Nat), scanL g i xs = none ↔ ∀ (j : Nat) (h : j < xs.length), g (i + j) xs[j] = none
  | [], i => by simp [scanL]
  | x :: xs, i => by
    simp only [scanL]
    cases h : g i x with
    | some r =>
      simp only [reduceCtorEq, false_iff]
      intro hh
      have := hh 0 (by simp)
      simp only [Nat.add_zero, List.getElem_cons_zero] at this
      rw [h] at this
      cases this
    | none =>
      show scanL g (i + 1) xs = none ↔ _
      rw [scan_none g xs (i + 1)]
      constructor
      · intro hh j hj
        cases j with
        | zero => simpa using h
        | succ j =>
          have := hh j (by simpa using hj)
          rw [show i + (j + 1) = i + 1 + j by omega]
          simpa using this
      · intro hh j hj
        have := hh (j + 1) (by simpa using hj)
        rw [show i + (j + 1) = i + 1 + j by omega] at this
        simpa using this

theorem take_sub {α : Type} {xs : List α} {i : Nat} (h : i ≤ xs.length) : lsub xs 0 (i : Int) = some (xs.take i) := by
  have := lsub_of (xs := xs) (l := 0) (h := i) (by omega) h
  rw [show ((0 : Nat) : Int) = 0 from rfl] at this
  rw [this]
  simp

theorem holds_spec (l : List ByteArray) (n : ByteArray) (h : l.length ≤ 1048576) : spec_l2Holds l n = some (l.any fun x => seq x n) := by
  have key := loop_scan l (fun _ x => if seq x n then some true else none) (b := spec_l2Holds_l1b l n) (by
    intro i hi
    unfold spec_l2Holds_l1b
    rw [if_pos (by simp; omega), idx_nat hi]
    simp only [Option.bind_some]
    rw [w64_nat (by omega)]
    cases seq l[i] n <;> rfl) (by
    unfold spec_l2Holds_l1b
    rw [if_neg (by simp)])
  unfold spec_l2Holds spec_l2Holds_l1
  rw [key, frs_go, ← scan_bool (fun x => seq x n) l 0]
  cases scanL (fun _ x => if seq x n then some true else none) 0 l <;> rfl

theorem place_ge {o : Option Int} {b : Bool} (h : (o.getD (-1) ≥ 0) ↔ b = true) : decide (o.getD (-1) ≥ 0) = b := by
  rw [Bool.eq_iff_iff, decide_eq_true_eq]; exact h

theorem contains_impl (l : List ByteArray) (n : ByteArray) (h : l.length ≤ 1048576) : slices_Contains_Lstring l n = some (l.any fun x => seq x n) := by
  have key := loop_scan l (fun i x => if seq x n then some (i : Int) else none) (b := slices_Index_Lstring_l1b l n) (by
    intro i hi
    unfold slices_Index_Lstring_l1b
    rw [if_pos (by simp; omega), idx_nat hi]
    simp only [Option.bind_some]
    rw [w64_nat (by omega), seq_comm n]
    cases seq l[i] n <;> rfl) (by
    unfold slices_Index_Lstring_l1b
    rw [if_neg (by simp)])
  unfold slices_Contains_Lstring slices_Index_Lstring slices_Index_Lstring_l1
  rw [key, frs_go]
  rw [← place_ge (scan_place (fun x => seq x n) l 0)]
  cases scanL (fun j x => if seq x n then some (j : Int) else none) 0 l <;> rfl

def provG (p : Pack) (i : Nat) (n : ByteArray) : Option Int := if NF n != 0 then some (NF n) else if seq n p.Name || (p.Provides.take i).any (fun x => seq x n) then some 6 else none
def needG (_ : Nat) (l : List Term) : Option Int := if (l.length : Int) == 0 then some 1 else if tsF l != 0 then some (tsF l) else none
def manyB (p : Pack) : Bool := decide ((p.Provides.length : Int) > 4) || (decide ((p.Needs.length : Int) > 4) || (decide ((p.Bars.length : Int) > 4) || p.Needs.any (fun l => decide ((l.length : Int) > 4))))
/-- What the lists of a package are worth. -/
def listsF (p : Pack) : Int := match scanL (provG p) 0 p.Provides with
  | some r => r
  | none => match scanL needG 0 p.Needs with
    | some r => r
    | none => tsF p.Bars
/-- What is wrong with a package. -/
def PF (p : Pack) : Int := if NF p.Name != 0 then NF p.Name else if VF p.Version != 0 then VF p.Version else if !(inB p.Size 1 200) then 3 else if manyB p then 2 else listsF p

theorem PackFault_lists (p : Pack) (hp : Pack.sm 1048576 p) : ((spec_PackFault_l2 p 0).bind (Fl.go some fun v60 => (spec_PackFault_l3 p 0).bind (Fl.go some fun v80 => (spec_l2Terms p.Bars).bind fun x81 => some x81))) = some (listsF p) := by
  obtain ⟨_, _, _, hpr, hne, hba⟩ := hp
  have k2 := loop_scan p.Provides (provG p) (b := spec_PackFault_l2b p) (by
    intro i hi
    unfold spec_PackFault_l2b provG
    rw [if_pos (by simp; omega), idx_nat hi]
    simp only [Option.bind_some, NameFault_spec]
    rw [take_sub (by omega)]
    simp only [Option.bind_some]
    rw [holds_spec _ _ (by simp; omega), w64_nat (by omega)]
    simp only [Option.bind_some]
    cases NF p.Provides[i] != 0 <;> cases seq p.Provides[i] p.Name <;> cases (p.Provides.take i).any (fun x => seq x p.Provides[i]) <;> rfl) (by
    unfold spec_PackFault_l2b
    rw [if_neg (by simp)])
  have k3 := loop_scan p.Needs needG (b := spec_PackFault_l3b p) (by
    intro i hi
    unfold spec_PackFault_l3b needG
    rw [if_pos (by simp; omega), idx_nat hi]
    simp only [Option.bind_some]
    rw [l2Terms_spec _ (hne.2 _ (List.getElem_mem hi)).1, w64_nat (by omega)]
    simp only [Option.bind_some]
    cases (p.Needs[i].length : Int) == 0 <;> cases tsF p.Needs[i] != 0 <;> rfl) (by
    unfold spec_PackFault_l3b
    rw [if_neg (by simp)])
  unfold spec_PackFault_l2 spec_PackFault_l3 listsF
  rw [k2, k3, l2Terms_spec _ hba.1]
  cases scanL (provG p) 0 p.Provides <;> cases scanL needG 0 p.Needs <;> rfl

theorem PackFault_listsI (p : Pack) (hp : Pack.sm 1048576 p) : ((impl_PackFault_l1 p 0).bind (Fl.go some fun v46 => (impl_PackFault_l2 p 0).bind (Fl.go some fun v62 => (impl_termsFault p.Bars).bind fun x63 => some x63))) = some (listsF p) := by
  obtain ⟨_, _, _, hpr, hne, hba⟩ := hp
  have k2 := loop_scan p.Provides (provG p) (b := impl_PackFault_l1b p) (by
    intro i hi
    unfold impl_PackFault_l1b provG
    rw [if_pos (by simp; omega), idx_nat hi]
    simp only [Option.bind_some, NameFault_impl]
    rw [take_sub (by omega)]
    simp only [Option.bind_some]
    rw [contains_impl _ _ (by simp; omega), w64_nat (by omega)]
    simp only [Option.bind_some]
    cases NF p.Provides[i] != 0 <;> cases seq p.Provides[i] p.Name <;> cases (p.Provides.take i).any (fun x => seq x p.Provides[i]) <;> rfl) (by
    unfold impl_PackFault_l1b
    rw [if_neg (by simp)])
  have k3 := loop_scan p.Needs needG (b := impl_PackFault_l2b p) (by
    intro i hi
    unfold impl_PackFault_l2b needG
    rw [if_pos (by simp; omega), idx_nat hi]
    simp only [Option.bind_some]
    rw [termsFault_impl _ (hne.2 _ (List.getElem_mem hi)).1, w64_nat (by omega)]
    simp only [Option.bind_some]
    cases (p.Needs[i].length : Int) == 0 <;> cases tsF p.Needs[i] != 0 <;> rfl) (by
    unfold impl_PackFault_l2b
    rw [if_neg (by simp)])
  unfold impl_PackFault_l1 impl_PackFault_l2 listsF
  rw [k2, k3, termsFault_impl _ hba.1]
  cases scanL (provG p) 0 p.Provides <;> cases scanL needG 0 p.Needs <;> rfl

theorem scan_const {α R : Type} (p : α → Bool) (r : R) : ∀ (xs : List α) (i : Nat), scanL (fun _ x => if p x then some r else none) i xs = if xs.any p then some r else none
  | [], i => rfl
  | x :: xs, i => by
    simp only [scanL]
    cases h : p x
    · simp only [Bool.false_eq_true, if_false, List.any_cons, h, Bool.false_or]
      exact scan_const p r xs (i + 1)
    · simp [h]

theorem PackFault_spec (p : Pack) (hp : Pack.sm 1048576 p) : spec_PackFault p = some (PF p) := by
  have hl := PackFault_lists p hp
  obtain ⟨_, _, _, hpr, hne, hba⟩ := hp
  have k1 := loop_scan p.Needs (fun _ l => if decide ((l.length : Int) > 4) then some (2 : Int) else none) (b := spec_PackFault_l1b p) (by
    intro i hi
    unfold spec_PackFault_l1b
    rw [if_pos (by simp; omega), idx_nat hi]
    simp only [Option.bind_some]
    rw [w64_nat (by omega)]
    cases decide ((p.Needs[i].length : Int) > 4) <;> rfl) (by
    unfold spec_PackFault_l1b
    rw [if_neg (by simp)])
  rw [scan_const] at k1
  unfold spec_PackFault PF manyB
  simp only [NameFault_spec, VersionFault_spec, l1In_eq, Option.bind_some]
  rw [hl]
  unfold spec_PackFault_l1
  rw [k1]
  cases NF p.Name != 0 <;> cases VF p.Version != 0 <;> cases inB p.Size 1 200 <;> cases decide ((p.Provides.length : Int) > 4) <;> cases decide ((p.Needs.length : Int) > 4) <;> cases decide ((p.Bars.length : Int) > 4) <;> cases p.Needs.any (fun l => decide ((l.length : Int) > 4)) <;> rfl

theorem PackFault_impl (p : Pack) (hp : Pack.sm 1048576 p) : impl_PackFault p = some (PF p) := by
  have hl := PackFault_listsI p hp
  obtain ⟨_, _, _, hpr, hne, hba⟩ := hp
  have k1 := loop_scan p.Needs (fun i l => if decide ((l.length : Int) > 4) then some (i : Int) else none) (b := slices_IndexFunc_LLimplTerm_impl_PackFault_1_l1b p.Needs) (by
    intro i hi
    unfold slices_IndexFunc_LLimplTerm_impl_PackFault_1_l1b impl_PackFault_1
    rw [if_pos (by simp; omega), idx_nat hi]
    simp only [Option.bind_some]
    rw [w64_nat (by omega)]
    cases decide ((p.Needs[i].length : Int) > 4) <;> rfl) (by
    unfold slices_IndexFunc_LLimplTerm_impl_PackFault_1_l1b
    rw [if_neg (by simp)])
  have k2 : slices_ContainsFunc_LLimplTerm_impl_PackFault_1 p.Needs = some (p.Needs.any (fun l => decide ((l.length : Int) > 4))) := by
    unfold slices_ContainsFunc_LLimplTerm_impl_PackFault_1 slices_IndexFunc_LLimplTerm_impl_PackFault_1 slices_IndexFunc_LLimplTerm_impl_PackFault_1_l1
    rw [k1, frs_go, ← place_ge (scan_place (fun l : List Term => decide ((l.length : Int) > 4)) p.Needs 0)]
    cases scanL (fun j (x : List Term) => if decide ((x.length : Int) > 4) then some (j : Int) else none) 0 p.Needs <;> rfl
  have k3 : impl_firstCode [NF p.Name, VF p.Version] = some (if NF p.Name != 0 then NF p.Name else VF p.Version) := by
    have k := firstOf [NF p.Name, VF p.Version] (by simp) (.inr rfl)
    unfold impl_firstCode impl_firstCode_l1
    rw [k, frs_go]
    simp only [scanL]
    cases hn : NF p.Name != 0
    · cases hv : VF p.Version != 0
      · have : VF p.Version = 0 := by simpa using hv
        simp [this]
      · rfl
    · rfl
  unfold impl_PackFault PF manyB
  simp only [NameFault_impl, VersionFault_impl, within_eq, Option.bind_some]
  rw [hl, k2, k3]
  simp only [Option.bind_some]
  cases hn : NF p.Name != 0
  · simp only [Bool.false_eq_true, if_false]
    cases VF p.Version != 0 <;> cases inB p.Size 1 200 <;> cases decide ((p.Provides.length : Int) > 4) <;> cases decide ((p.Needs.length : Int) > 4) <;> cases decide ((p.Bars.length : Int) > 4) <;> cases p.Needs.any (fun l => decide ((l.length : Int) > 4)) <;> rfl
  · simp only [if_true, hn]

/-- One of this name and version. -/
def isB (n : ByteArray) (v : Version) (q : Pack) : Bool := seq q.Name n && eqV q.Version v

theorem find_spec (c : List Pack) (n : ByteArray) (v : Version) (h : c.length ≤ 1048576) : ∃ k, spec_l2Find c n v = some k ∧ decide (k ≥ 0) = c.any (isB n v) := by
  have key := loop_scan c (fun i q => if isB n v q then some (i : Int) else none) (b := spec_l2Find_l1b c n v) (by
    intro i hi
    unfold spec_l2Find_l1b isB
    rw [if_pos (by simp; omega), idx_nat hi]
    simp only [Option.bind_some, CompareVersions_spec, cmpV_zero]
    rw [w64_nat (by omega)]
    cases seq c[i].Name n <;> cases eqV c[i].Version v <;> rfl) (by
    unfold spec_l2Find_l1b
    rw [if_neg (by simp)])
  refine ⟨_, ?_, place_ge (scan_place (isB n v) c 0)⟩
  unfold spec_l2Find spec_l2Find_l1
  rw [key, frs_go]
  cases scanL (fun i q => if isB n v q then some (i : Int) else none) 0 c <;> rfl

theorem find_impl (c : List Pack) (n : ByteArray) (v : Version) (h : c.length ≤ 1048576) : ∃ k, impl_find c n v = some k ∧ decide (k ≥ 0) = c.any (isB n v) := by
  have key := loop_scan c (fun i q => if isB n v q then some (i : Int) else none) (b := slices_IndexFunc_LimplPack_impl_find_1_l1b c n v) (by
    intro i hi
    unfold slices_IndexFunc_LimplPack_impl_find_1_l1b isB impl_find_1
    rw [if_pos (by simp; omega), idx_nat hi]
    simp only [Option.bind_some]
    rw [w64_nat (by omega)]
    show (Option.bind (if seq c[i].Name n = true then some (eqV c[i].Version v) else some false) _) = _
    cases seq c[i].Name n <;> cases eqV c[i].Version v <;> rfl) (by
    unfold slices_IndexFunc_LimplPack_impl_find_1_l1b
    rw [if_neg (by simp)])
  refine ⟨_, ?_, place_ge (scan_place (isB n v) c 0)⟩
  unfold impl_find slices_IndexFunc_LimplPack_impl_find_1 slices_IndexFunc_LimplPack_impl_find_1_l1
  rw [key, frs_go]
  cases scanL (fun i q => if isB n v q then some (i : Int) else none) 0 c <;> rfl

def catG (c : List Pack) (i : Nat) (p : Pack) : Option Int := if PF p != 0 then some (PF p) else if (c.take i).any (isB p.Name p.Version) then some 6 else none
/-- What is wrong with a catalog. -/
def CF (c : List Pack) : Int := if decide ((c.length : Int) > 24) then 2 else (scanL (catG c) 0 c).getD 0

theorem CatalogFault_spec (c : List Pack) (hc : c.length ≤ 1048576 ∧ ∀ y0 ∈ c, Pack.sm 1048576 y0) : spec_CatalogFault c = some (CF c) := by
  have key := loop_scan c (catG c) (b := spec_CatalogFault_l1b c) (by
    intro i hi
    unfold spec_CatalogFault_l1b catG
    rw [if_pos (by simp; omega), idx_nat hi]
    simp only [Option.bind_some]
    rw [PackFault_spec _ (hc.2 _ (List.getElem_mem hi)), take_sub (by omega)]
    simp only [Option.bind_some]
    obtain ⟨k, e, hk⟩ := find_spec (c.take i) c[i].Name c[i].Version (by simp; omega)
    rw [e, w64_nat (by omega)]
    simp only [Option.bind_some]
    rw [hk]
    cases PF c[i] != 0 <;> cases (c.take i).any (isB c[i].Name c[i].Version) <;> rfl) (by
    unfold spec_CatalogFault_l1b
    rw [if_neg (by simp)])
  unfold spec_CatalogFault CF spec_CatalogFault_l1
  rw [key, frs_go]
  cases decide ((c.length : Int) > 24) <;> cases scanL (catG c) 0 c <;> rfl

theorem CatalogFault_impl (c : List Pack) (hc : c.length ≤ 1048576 ∧ ∀ y0 ∈ c, Pack.sm 1048576 y0) : impl_CatalogFault c = some (CF c) := by
  have key := loop_scan c (catG c) (b := impl_CatalogFault_l1b c) (by
    intro i hi
    unfold impl_CatalogFault_l1b catG
    rw [if_pos (by simp; omega), idx_nat hi]
    simp only [Option.bind_some]
    rw [PackFault_impl _ (hc.2 _ (List.getElem_mem hi)), take_sub (by omega)]
    simp only [Option.bind_some]
    obtain ⟨k, e, hk⟩ := find_impl (c.take i) c[i].Name c[i].Version (by simp; omega)
    rw [e, w64_nat (by omega)]
    simp only [Option.bind_some]
    rw [hk]
    cases PF c[i] != 0 <;> cases (c.take i).any (isB c[i].Name c[i].Version) <;> rfl) (by
    unfold impl_CatalogFault_l1b
    rw [if_neg (by simp)])
  unfold impl_CatalogFault CF impl_CatalogFault_l1
  rw [key, frs_go]
  cases decide ((c.length : Int) > 24) <;> cases scanL (catG c) 0 c <;> rfl
/-! ### What a package gives; the faults of a set -/
def verB (t : Term) (v : Version) : Bool := decide (cmpV v t.Low ≥ 0) && decide (cmpV v t.High < 0)
def hasT (t : Term) (n : ByteArray) (v : Version) : Bool := seq t.Name n && verB t v

theorem inTerm_spec (t : Term) (n : ByteArray) (v : Version) : spec_l1InTerm t n v = some (hasT t n v) := by
  unfold spec_l1InTerm hasT verB
  simp only [CompareVersions_spec, Option.bind_some]
  cases seq t.Name n <;> cases decide (cmpV v t.Low ≥ 0) <;> rfl

theorem has_impl (t : Term) (n : ByteArray) (v : Version) : impl_Term_has t n v = some (hasT t n v) := by
  unfold impl_Term_has hasT verB
  simp only [compare_impl, Option.bind_some]
  have e : decide (cmpV t.Low v ≤ 0) = decide (cmpV v t.Low ≥ 0) := by
    rw [cmpV_swap v t.Low]
    rw [Bool.eq_iff_iff, decide_eq_true_eq, decide_eq_true_eq]
    omega
  rw [e]
  cases seq t.Name n <;> cases decide (cmpV v t.Low ≥ 0) <;> rfl

def givesB (p : Pack) (t : Term) : Bool := (seq t.Name p.Name || p.Provides.any (fun x => seq x t.Name)) && verB t p.Version

theorem gives_spec (p : Pack) (t : Term) (h : p.Provides.length ≤ 1048576) : spec_l2Gives p t = some (givesB p t) := by
  unfold spec_l2Gives givesB
  simp only [inTerm_spec, Option.bind_some, holds_spec _ _ h, hasT, seq_self, Bool.true_and]
  cases seq t.Name p.Name <;> cases p.Provides.any (fun x => seq x t.Name) <;> rfl

theorem gives_impl (p : Pack) (t : Term) (h : p.Provides.length ≤ 1048576) : impl_Pack_gives p t = some (givesB p t) := by
  unfold impl_Pack_gives impl_Pack_names
  rw [app_of (by simp; omega) (by simp; omega)]
  simp only [Option.bind_some]
  have key := loop_scan ([p.Name] ++ p.Provides) (fun i n => if hasT t n p.Version then some (i : Int) else none) (b := slices_IndexFunc_Lstringr_impl_Pack_gives_1_l1b ([p.Name] ++ p.Provides) t p) (by
    intro i hi
    have hi' : i < p.Provides.length + 1 := by simpa using hi
    unfold slices_IndexFunc_Lstringr_impl_Pack_gives_1_l1b impl_Pack_gives_1
    rw [if_pos (by rw [decide_eq_true_eq]; exact Int.ofNat_lt.2 hi), idx_nat hi]
    simp only [Option.bind_some, has_impl]
    rw [w64_nat (by omega)]
    cases hasT t ([p.Name] ++ p.Provides)[i] p.Version <;> rfl) (by
    unfold slices_IndexFunc_Lstringr_impl_Pack_gives_1_l1b
    rw [if_neg (by simp)])
  unfold slices_ContainsFunc_Lstringr_impl_Pack_gives_1 slices_IndexFunc_Lstringr_impl_Pack_gives_1 slices_IndexFunc_Lstringr_impl_Pack_gives_1_l1
  rw [key, frs_go]
  have e : givesB p t = ([p.Name] ++ p.Provides).any (fun n => hasT t n p.Version) := by
    unfold givesB hasT
    have : (fun n => seq t.Name n && verB t p.Version) = (fun n => seq n t.Name && verB t p.Version) := funext fun n => by rw [seq_comm]
    rw [this, seq_comm t.Name p.Name]
    cases verB t p.Version <;> simp
  rw [e, ← place_ge (scan_place (fun n => hasT t n p.Version) ([p.Name] ++ p.Provides) 0)]
  cases scanL (fun i n => if hasT t n p.Version then some (i : Int) else none) 0 ([p.Name] ++ p.Provides) <;> rfl

theorem givesOne_impl (p : Pack) (l : List Term) (h : p.Provides.length ≤ 1048576) (hl : l.length ≤ 1048576) : impl_Pack_givesOne p l = some (l.any (givesB p)) := by
  have key := loop_scan l (fun i t => if givesB p t then some (i : Int) else none) (b := slices_IndexFunc_LimplTerm_impl_Pack_gives_l1b l p) (by
    intro i hi
    unfold slices_IndexFunc_LimplTerm_impl_Pack_gives_l1b
    rw [if_pos (by simp; omega), idx_nat hi]
    simp only [Option.bind_some, gives_impl _ _ h]
    rw [w64_nat (by omega)]
    cases givesB p l[i] <;> rfl) (by
    unfold slices_IndexFunc_LimplTerm_impl_Pack_gives_l1b
    rw [if_neg (by simp)])
  unfold impl_Pack_givesOne slices_ContainsFunc_LimplTerm_impl_Pack_gives slices_IndexFunc_LimplTerm_impl_Pack_gives slices_IndexFunc_LimplTerm_impl_Pack_gives_l1
  rw [key, frs_go, ← place_ge (scan_place (givesB p) l 0)]
  cases scanL (fun i t => if givesB p t then some (i : Int) else none) 0 l <;> rfl

def noPack : Pack := { Name := ByteArray.empty, Version := { A := 0, B := 0, C := 0 }, Size := 0, Provides := [], Needs := [], Bars := [] }
/-- The package at a place. -/
def pat (c : List Pack) (k : Int) : Pack := (idx c k).getD noPack

/-- The places of a set are places of the catalog. -/
def Places (c : List Pack) (a : List Int) : Prop := ∀ k ∈ a, 0 ≤ k ∧ k < c.length

theorem pat_idx {c : List Pack} {k : Int} (h : 0 ≤ k ∧ k < c.length) : idx c k = some (pat c k) ∧ pat c k ∈ c := by
  unfold pat idx
  rw [if_pos h.1]
  have : k.toNat < c.length := by omega
  rw [List.getElem?_eq_getElem this]
  exact ⟨rfl, List.getElem_mem this⟩

def Cat (c : List Pack) : Prop := c.length ≤ 1048576 ∧ ∀ y0 ∈ c, Pack.sm 1048576 y0

theorem Cat.prov {c : List Pack} (hc : Cat c) {k : Int} (h : 0 ≤ k ∧ k < c.length) : (pat c k).Provides.length ≤ 1048576 := (hc.2 _ (pat_idx h).2).2.2.2.1.1
theorem Cat.needs {c : List Pack} (hc : Cat c) {k : Int} (h : 0 ≤ k ∧ k < c.length) : (pat c k).Needs.length ≤ 1048576 := (hc.2 _ (pat_idx h).2).2.2.2.2.1.1
theorem Cat.clause {c : List Pack} (hc : Cat c) {k : Int} (h : 0 ≤ k ∧ k < c.length) {l : List Term} (hl : l ∈ (pat c k).Needs) : l.length ≤ 1048576 := ((hc.2 _ (pat_idx h).2).2.2.2.2.1.2 l hl).1
theorem Cat.bars {c : List Pack} (hc : Cat c) {k : Int} (h : 0 ≤ k ∧ k < c.length) : (pat c k).Bars.length ≤ 1048576 := (hc.2 _ (pat_idx h).2).2.2.2.2.2.1

def givenB (c : List Pack) (a : List Int) (t : Term) (x : Int) : Bool := a.any (fun k => k != x && givesB (pat c k) t)

theorem given_spec {c : List Pack} {a : List Int} (hc : Cat c) (hp : Places c a) (ha : a.length ≤ 1048576) (t : Term) (x : Int) : spec_l3Given c a t x = some (givenB c a t x) := by
  have key := loop_scan a (fun _ k => if k != x && givesB (pat c k) t then some true else none) (b := spec_l3Given_l1b c a t x) (by
    intro i hi
    have hk := hp _ (List.getElem_mem hi)
    unfold spec_l3Given_l1b
    rw [if_pos (by simp; omega), idx_nat hi]
    simp only [Option.bind_some]
    rw [(pat_idx hk).1]
    simp only [Option.bind_some]
    rw [gives_spec _ _ (hc.prov hk), w64_nat (by omega)]
    cases a[i] != x <;> cases givesB (pat c a[i]) t <;> rfl) (by
    unfold spec_l3Given_l1b
    rw [if_neg (by simp)])
  unfold spec_l3Given spec_l3Given_l1 givenB
  rw [key, frs_go, ← scan_bool (fun k => k != x && givesB (pat c k) t) a 0]
  cases scanL (fun _ k => if k != x && givesB (pat c k) t then some true else none) 0 a <;> rfl

theorem given_impl {c : List Pack} {a : List Int} (hc : Cat c) (hp : Places c a) (ha : a.length ≤ 1048576) (t : Term) (x : Int) : slices_ContainsFunc_Lint64_impl_faults_2 a x c t = some (givenB c a t x) := by
  have key := loop_scan a (fun i k => if k != x && givesB (pat c k) t then some (i : Int) else none) (b := slices_IndexFunc_Lint64_impl_faults_2_l1b a x c t) (by
    intro i hi
    have hk := hp _ (List.getElem_mem hi)
    unfold slices_IndexFunc_Lint64_impl_faults_2_l1b impl_faults_2
    rw [if_pos (by simp; omega), idx_nat hi]
    simp only [Option.bind_some]
    rw [(pat_idx hk).1]
    simp only [Option.bind_some]
    rw [gives_impl _ _ (hc.prov hk), w64_nat (by omega)]
    cases a[i] != x <;> cases givesB (pat c a[i]) t <;> rfl) (by
    unfold slices_IndexFunc_Lint64_impl_faults_2_l1b
    rw [if_neg (by simp)])
  unfold slices_ContainsFunc_Lint64_impl_faults_2 slices_IndexFunc_Lint64_impl_faults_2 slices_IndexFunc_Lint64_impl_faults_2_l1 givenB
  rw [key, frs_go, ← place_ge (scan_place (fun k => k != x && givesB (pat c k) t) a 0)]
  cases scanL (fun i k => if k != x && givesB (pat c k) t then some (i : Int) else none) 0 a <;> rfl

def metB (c : List Pack) (a : List Int) (l : List Term) : Bool := a.any (fun k => l.any (givesB (pat c k)))

theorem met_spec {c : List Pack} {a : List Int} (hc : Cat c) (hp : Places c a) (ha : a.length ≤ 1048576) (l : List Term) (hl : l.length ≤ 1048576) : spec_l3Met c a l = some (metB c a l) := by
  have key := loop_scan l (fun _ t => if givenB c a t (-1) then some true else none) (b := spec_l3Met_l1b c a l) (by
    intro i hi
    unfold spec_l3Met_l1b
    rw [if_pos (by simp; omega), idx_nat hi]
    simp only [Option.bind_some, given_spec hc hp ha]
    rw [w64_nat (by omega)]
    cases givenB c a l[i] (-1) <;> rfl) (by
    unfold spec_l3Met_l1b
    rw [if_neg (by simp)])
  unfold spec_l3Met spec_l3Met_l1
  rw [key, frs_go]
  have e : metB c a l = l.any (fun t => givenB c a t (-1)) := by
    unfold metB givenB
    rw [Bool.eq_iff_iff]
    simp only [List.any_eq_true, Bool.and_eq_true, bne_iff_ne]
    constructor
    · rintro ⟨k, hk, t, ht, hg⟩
      exact ⟨t, ht, k, hk, by have := (hp k hk).1; omega, hg⟩
    · rintro ⟨t, ht, k, hk, _, hg⟩
      exact ⟨k, hk, t, ht, hg⟩
  rw [e, ← scan_bool (fun t => givenB c a t (-1)) l 0]
  cases scanL (fun _ t => if givenB c a t (-1) then some true else none) 0 l <;> rfl

theorem met_impl {c : List Pack} {a : List Int} (hc : Cat c) (hp : Places c a) (ha : a.length ≤ 1048576) (l : List Term) (hl : l.length ≤ 1048576) : slices_ContainsFunc_Lint64_impl_faults_1 a c l = some (metB c a l) := by
  have key := loop_scan a (fun i k => if l.any (givesB (pat c k)) then some (i : Int) else none) (b := slices_IndexFunc_Lint64_impl_faults_1_l1b a c l) (by
    intro i hi
    have hk := hp _ (List.getElem_mem hi)
    unfold slices_IndexFunc_Lint64_impl_faults_1_l1b impl_faults_1
    rw [if_pos (by simp; omega), idx_nat hi]
    simp only [Option.bind_some]
    rw [(pat_idx hk).1]
    simp only [Option.bind_some]
    rw [givesOne_impl _ _ (hc.prov hk) hl, w64_nat (by omega)]
    cases l.any (givesB (pat c a[i])) <;> rfl) (by
    unfold slices_IndexFunc_Lint64_impl_faults_1_l1b
    rw [if_neg (by simp)])
  unfold slices_ContainsFunc_Lint64_impl_faults_1 slices_IndexFunc_Lint64_impl_faults_1 slices_IndexFunc_Lint64_impl_faults_1_l1 metB
  rw [key, frs_go, ← place_ge (scan_place (fun k => l.any (givesB (pat c k))) a 0)]
  cases scanL (fun i k => if l.any (givesB (pat c k)) then some (i : Int) else none) 0 a <;> rfl

theorem loop_scanT {α T : Type} (xs : List α) (g : Nat → α → Option T) (e : T) {b : Int → Option (Lp Int T)}
    (hstep : ∀ (i : Nat) (hi : i < xs.length), b (i : Int) = some (match g i xs[i] with | some r => .done r | none => .go ((i + 1 : Nat) : Int))) (hend : b (xs.length : Int) = some (.done e)) :
    ∀ (k i : Nat), i + k = xs.length → loop b (i : Int) = some ((scanL g i (xs.drop i)).getD e)
  | 0, i, h => by
    have e : i = xs.length := by omega
    subst e
    rw [loop_eq, hend, List.drop_length]
    rfl
  | k + 1, i, h => by
    have hi : i < xs.length := by omega
    have ih := loop_scanT xs g e hstep hend k (i + 1) (by omega)
    rw [loop_eq, hstep i hi, List.drop_eq_getElem_cons hi]
    simp only [scanL]
    cases g i xs[i] with
    | some r => rfl
    | none => exact ih

def fN (c : List Pack) (a : List Int) (k : Int) (j : Nat) (l : List Fault) (x : List Term) : List Fault := if !(metB c a x) then l ++ [{ Kind := 2, Pack := k, At := (j : Int) }] else l
def fB (c : List Pack) (a : List Int) (k : Int) (j : Nat) (l : List Fault) (t : Term) : List Fault := if givenB c a t k then l ++ [{ Kind := 3, Pack := k, At := (j : Int) }] else l
def fD (c : List Pack) (a : List Int) (i : Nat) (k : Int) (l : List Fault) : List Fault := if (a.take i).any (fun o => seq (pat c o).Name (pat c k).Name) then l ++ [{ Kind := 1, Pack := k, At := 0 }] else l
def fS (c : List Pack) (a : List Int) (i : Nat) (l : List Fault) (k : Int) : List Fault := foldI (fB c a k) 0 (pat c k).Bars (foldI (fN c a k) 0 (pat c k).Needs (fD c a i k l))
/-- The faults of a set. -/
def faultsL (c : List Pack) (a : List Int) : List Fault := foldI (fS c a) 0 a []

theorem fN_len (c : List Pack) (a : List Int) (k : Int) (j : Nat) (l : List Fault) (x : List Term) : (fN c a k j l x).length ≤ l.length + 1 := by unfold fN; split <;> simp
theorem fB_len (c : List Pack) (a : List Int) (k : Int) (j : Nat) (l : List Fault) (t : Term) : (fB c a k j l t).length ≤ l.length + 1 := by unfold fB; split <;> simp
theorem fD_len (c : List Pack) (a : List Int) (i : Nat) (k : Int) (l : List Fault) : (fD c a i k l).length ≤ l.length + 1 := by unfold fD; split <;> simp

theorem needs_loop {c : List Pack} {a : List Int} (k : Int) (ns : List (List Term)) (hn : ns.length ≤ 1048576) (n0 : Nat) (h0 : n0 ≤ 5497560000000) {b : (List Fault × Int) → Option (Lp (List Fault × Int) (List Fault))}
    (hstep : ∀ (j : Nat) (l : List Fault) (hj : j < ns.length), b (l, (j : Int)) = (if !(metB c a ns[j]) then (app 24 l [{ Kind := 2, Pack := k, At := (j : Int) }]) else some l).bind fun v => some (Lp.go (v, w64 ((j : Int) + 1)))) (hend : ∀ l, b (l, (ns.length : Int)) = some (.done l)) (l : List Fault) (hl : l.length ≤ n0) :
    loop b (l, 0) = some (foldI (fN c a k) 0 ns l) ∧ (foldI (fN c a k) 0 ns l).length ≤ n0 + ns.length := by
  have key := loop_foldI ns (fN c a k) (fun j l => l.length ≤ n0 + j) (b := b) (by
    intro j l hj hI
    refine ⟨?_, by have := fN_len c a k j l ns[j]; omega⟩
    rw [hstep j l hj, w64_nat (by omega), app_of (by simp; omega) (by simp; omega)]
    unfold fN
    cases metB c a ns[j] <;> rfl) hend ns.length 0 l (by omega) (by simpa using hl)
  simpa using key

theorem bars_loop {c : List Pack} {a : List Int} (k : Int) (ts : List Term) (hn : ts.length ≤ 1048576) (n0 : Nat) (h0 : n0 ≤ 5497560000000) {b : (List Fault × Int) → Option (Lp (List Fault × Int) (List Fault))}
    (hstep : ∀ (j : Nat) (l : List Fault) (hj : j < ts.length), b (l, (j : Int)) = (if givenB c a ts[j] k then (app 24 l [{ Kind := 3, Pack := k, At := (j : Int) }]) else some l).bind fun v => some (Lp.go (v, w64 ((j : Int) + 1)))) (hend : ∀ l, b (l, (ts.length : Int)) = some (.done l)) (l : List Fault) (hl : l.length ≤ n0) :
    loop b (l, 0) = some (foldI (fB c a k) 0 ts l) ∧ (foldI (fB c a k) 0 ts l).length ≤ n0 + ts.length := by
  have key := loop_foldI ts (fB c a k) (fun j l => l.length ≤ n0 + j) (b := b) (by
    intro j l hj hI
    refine ⟨?_, by have := fB_len c a k j l ts[j]; omega⟩
    rw [hstep j l hj, w64_nat (by omega), app_of (by simp; omega) (by simp; omega)]
    unfold fB
    cases givenB c a ts[j] k <;> rfl) hend ts.length 0 l (by omega) (by simpa using hl)
  simpa using key

theorem bind_id {α : Type} (o : Option α) : o.bind (fun x => some x) = o := by cases o <;> rfl

/-- The bound of the list of faults behind i members. -/
def fbound (i : Nat) : Nat := i * 2097153

theorem faults_spec {c : List Pack} {a : List Int} (hc : Cat c) (hp : Places c a) (ha : a.length ≤ 1048576) : spec_l3Faults c a = some (faultsL c a) := by
  have key := loop_foldI a (fS c a) (fun i l => l.length ≤ fbound i) (b := spec_l3Faults_l4b c a) (by
    intro i l hi hI
    have hk := hp _ (List.getElem_mem hi)
    have hb : fbound i ≤ 2199022206976 := by unfold fbound; omega
    have hb1 : fbound (i + 1) = fbound i + 2097153 := by unfold fbound; omega
    have hN := hc.needs hk
    have hB := hc.bars hk
    have k1 := loop_scanT (a.take i) (fun _ o => if seq (pat c o).Name (pat c a[i]).Name then some (l ++ [({ Kind := 1, Pack := a[i], At := 0 } : Fault)]) else none) l (b := spec_l3Faults_l1b c a (l, (i : Int)) (pat c a[i])) (by
      intro j hj
      have hj' : j < i := by simp at hj; omega
      have hja : j < a.length := by omega
      have hkj := hp _ (List.getElem_mem hja)
      unfold spec_l3Faults_l1b
      rw [if_pos (by simp; omega), idx_nat hja]
      simp only [Option.bind_some]
      rw [(pat_idx hkj).1, idx_nat hi]
      simp only [Option.bind_some]
      rw [w64_nat (by omega), app_of (by simp; omega) (by simp; omega), List.getElem_take]
      cases seq (pat c a[j]).Name (pat c a[i]).Name <;> rfl) (by
      have : (a.take i).length = i := by simp; omega
      rw [this]
      unfold spec_l3Faults_l1b
      rw [if_neg (by simp)]) (a.take i).length 0 (by omega)
    rw [List.drop_zero, scan_const] at k1
    have e1 : spec_l3Faults_l1 c a (l, (i : Int)) (pat c a[i]) 0 = some (fD c a i a[i] l) := by
      unfold spec_l3Faults_l1 fD
      rw [show ((0 : Nat) : Int) = 0 from rfl] at k1
      rw [k1]
      cases (a.take i).any (fun o => seq (pat c o).Name (pat c a[i]).Name) <;> rfl
    have hd := fD_len c a i a[i] l
    obtain ⟨e2, l2⟩ := needs_loop (c := c) (a := a) a[i] (pat c a[i]).Needs hN (fbound i + 1) (by omega) (b := spec_l3Faults_l2b c a (l, (i : Int)) (pat c a[i])) (by
      intro j l hj
      unfold spec_l3Faults_l2b
      rw [if_pos (by simp; omega), idx_nat hj]
      simp only [Option.bind_some]
      rw [met_spec hc hp ha _ (hc.clause hk (List.getElem_mem hj)), idx_nat hi]
      simp only [Option.bind_some, bind_id]) (by
      intro l
      unfold spec_l3Faults_l2b
      rw [if_neg (by simp)]) (fD c a i a[i] l) (by omega)
    obtain ⟨e3, l3⟩ := bars_loop (c := c) (a := a) a[i] (pat c a[i]).Bars hB (fbound i + 1 + 1048576) (by omega) (b := spec_l3Faults_l3b c a (l, (i : Int)) (pat c a[i])) (by
      intro j l hj
      unfold spec_l3Faults_l3b
      rw [if_pos (by simp; omega), idx_nat hj, idx_nat hi]
      simp only [Option.bind_some, given_spec hc hp ha, bind_id]) (by
      intro l
      unfold spec_l3Faults_l3b
      rw [if_neg (by simp)]) _ (Nat.le_trans l2 (by omega))
    refine ⟨?_, by show (fS c a i l a[i]).length ≤ _; unfold fS; omega⟩
    unfold spec_l3Faults_l4b
    rw [if_pos (by simp; omega), idx_nat hi]
    simp only [Option.bind_some]
    rw [(pat_idx hk).1]
    simp only [Option.bind_some]
    rw [e1]
    simp only [Option.bind_some]
    unfold spec_l3Faults_l2 spec_l3Faults_l3
    rw [e2]
    simp only [Option.bind_some]
    rw [e3, w64_nat (by omega)]
    rfl) (by
    intro l
    unfold spec_l3Faults_l4b
    rw [if_neg (by simp)]) a.length 0 [] (by omega) (by simp)
  unfold spec_l3Faults spec_l3Faults_l4 faultsL
  have k := key.1
  rw [show ((0 : Nat) : Int) = 0 from rfl, List.drop_zero] at k
  rw [k]
  rfl

theorem scan_val (q : Int → Bool) : ∀ (xs : List Int) (i : Nat), (∀ k ∈ xs, 0 ≤ k) → (((scanL (fun _ k => if q k then some k else none) i xs).getD (-1) ≥ 0) ↔ xs.any q = true)
  | [], i, _ => by simp [scanL]
  | x :: xs, i, h => by
    simp only [scanL]
    cases hq : q x
    · simp only [Bool.false_eq_true, if_false, List.any_cons, hq, Bool.false_or]
      exact scan_val q xs (i + 1) (fun k hk => h k (by simp [hk]))
    · have := h x (by simp)
      simp [hq]
      omega

theorem named_impl {c : List Pack} {a : List Int} (hp : Places c a) (ha : a.length ≤ 1048576) (n : ByteArray) : ∃ k, impl_named c a n = some k ∧ decide (k ≥ 0) = a.any (fun o => seq (pat c o).Name n) := by
  have key := loop_scan a (fun _ k => if seq (pat c k).Name n then some k else none) (b := impl_named_l1b c a n) (by
    intro i hi
    have hk := hp _ (List.getElem_mem hi)
    unfold impl_named_l1b
    rw [if_pos (by simp; omega), idx_nat hi]
    simp only [Option.bind_some]
    rw [(pat_idx hk).1]
    simp only [Option.bind_some]
    rw [w64_nat (by omega)]
    cases seq (pat c a[i]).Name n <;> rfl) (by
    unfold impl_named_l1b
    rw [if_neg (by simp)])
  refine ⟨_, ?_, place_ge (scan_val (fun o => seq (pat c o).Name n) a 0 (fun k hk => (hp k hk).1))⟩
  unfold impl_named impl_named_l1
  rw [key, frs_go]
  cases scanL (fun _ k => if seq (pat c k).Name n then some k else none) 0 a <;> rfl

theorem faults_impl {c : List Pack} {a : List Int} (hc : Cat c) (hp : Places c a) (ha : a.length ≤ 1048576) : impl_faults c a = some (faultsL c a) := by
  have key := loop_foldI a (fS c a) (fun i l => l.length ≤ fbound i) (b := impl_faults_l3b c a) (by
    intro i l hi hI
    have hk := hp _ (List.getElem_mem hi)
    have hb : fbound i ≤ 2199022206976 := by unfold fbound; omega
    have hb1 : fbound (i + 1) = fbound i + 2097153 := by unfold fbound; omega
    have hN := hc.needs hk
    have hB := hc.bars hk
    obtain ⟨kk, e0, hkk⟩ := named_impl (c := c) (a := a.take i) (fun k hk => hp k (List.mem_of_mem_take hk)) (by simp; omega) (pat c a[i]).Name
    have hd := fD_len c a i a[i] l
    obtain ⟨e2, l2⟩ := needs_loop (c := c) (a := a) a[i] (pat c a[i]).Needs hN (fbound i + 1) (by omega) (b := impl_faults_l1b c a (l, (i : Int)) a[i] (pat c a[i])) (by
      intro j l hj
      unfold impl_faults_l1b
      rw [if_pos (by simp; omega), idx_nat hj]
      simp only [Option.bind_some]
      rw [met_impl hc hp ha _ (hc.clause hk (List.getElem_mem hj))]
      simp only [Option.bind_some, bind_id]) (by
      intro l
      unfold impl_faults_l1b
      rw [if_neg (by simp)]) (fD c a i a[i] l) (by omega)
    obtain ⟨e3, l3⟩ := bars_loop (c := c) (a := a) a[i] (pat c a[i]).Bars hB (fbound i + 1 + 1048576) (by omega) (b := impl_faults_l2b c a (l, (i : Int)) a[i] (pat c a[i])) (by
      intro j l hj
      unfold impl_faults_l2b
      rw [if_pos (by simp; omega), idx_nat hj]
      simp only [Option.bind_some, given_impl hc hp ha, bind_id]) (by
      intro l
      unfold impl_faults_l2b
      rw [if_neg (by simp)]) _ (Nat.le_trans l2 (by omega))
    refine ⟨?_, by show (fS c a i l a[i]).length ≤ _; unfold fS; omega⟩
    unfold impl_faults_l3b
    rw [if_pos (by simp; omega), idx_nat hi]
    simp only [Option.bind_some]
    rw [(pat_idx hk).1, take_sub (by omega)]
    simp only [Option.bind_some]
    rw [e0]
    simp only [Option.bind_some]
    rw [hkk, app_of (by simp; omega) (by simp; omega)]
    simp only [Option.bind_some]
    have ed : (if (a.take i).any (fun o => seq (pat c o).Name (pat c a[i]).Name) = true then some (l ++ [({ Kind := 1, Pack := a[i], At := 0 } : Fault)]) else some l) = some (fD c a i a[i] l) := by
      unfold fD
      cases (a.take i).any (fun o => seq (pat c o).Name (pat c a[i]).Name) <;> rfl
    rw [ed]
    simp only [Option.bind_some]
    unfold impl_faults_l1 impl_faults_l2
    rw [e2]
    simp only [Option.bind_some]
    rw [e3, w64_nat (by omega)]
    rfl) (by
    intro l
    unfold impl_faults_l3b
    rw [if_neg (by simp)]) a.length 0 [] (by omega) (by simp)
  unfold impl_faults impl_faults_l3 faultsL
  have k := key.1
  rw [show ((0 : Nat) : Int) = 0 from rfl, List.drop_zero] at k
  rw [k]
  rfl
/-! ### Sets and plans -/
def setG (c : List Pack) (a : List Int) (i : Nat) (k : Int) : Option Bool := if !(inB k 0 ((c.length : Int) - 1)) || (decide (0 < i) && decide (k ≤ a.getD (i - 1) 0)) then some false else none
/-- The places are places, in order. -/
def setB (c : List Pack) (a : List Int) : Bool := (scanL (setG c a) 0 a).isNone

theorem getD_lt {a : List Int} {i : Nat} (h : i < a.length) : a.getD i 0 = a[i] := by simp [List.getD, h]

theorem l3Set_spec {c : List Pack} {a : List Int} (hc : c.length ≤ 1048576) (ha : a.length ≤ 1048576) : spec_l3Set c a = some (setB c a) := by
  have key := loop_scan a (setG c a) (b := spec_l3Set_l1b c a) (by
    intro i hi
    unfold spec_l3Set_l1b setG
    rw [if_pos (by simp; omega), idx_nat hi, w64_of (x := (c.length : Int) - 1) (by omega) (by omega)]
    simp only [Option.bind_some, l1In_eq]
    by_cases h0 : 0 < i
    · rw [w64_of (x := (i : Int) - 1) (by omega) (by omega), show (i : Int) - 1 = ((i - 1 : Nat) : Int) by omega, idx_nat (show i - 1 < a.length by omega), getD_lt (show i - 1 < a.length by omega)]
      have e : decide ((i : Int) > 0) = true := by simp; omega
      have e2 : decide (0 < i) = true := by simpa using h0
      rw [e, e2, w64_nat (by omega)]
      simp only [Option.bind_some, Bool.true_and]
      cases inB a[i] 0 ((c.length : Int) - 1) <;> cases decide (a[i] ≤ a[i - 1]) <;> rfl
    · have e : decide ((i : Int) > 0) = false := by simp; omega
      have e2 : decide (0 < i) = false := by simpa using h0
      rw [e, e2, w64_nat (by omega)]
      cases inB a[i] 0 ((c.length : Int) - 1) <;> rfl) (by
    unfold spec_l3Set_l1b
    rw [if_neg (by simp)])
  unfold spec_l3Set spec_l3Set_l1 setB
  rw [key, frs_go]
  have hf : ∀ (l : List Int) (i : Nat), scanL (setG c a) i l = none ∨ scanL (setG c a) i l = some false := by
    intro l
    induction l with
    | nil => intro i; exact .inl rfl
    | cons x l ih =>
      intro i
      simp only [scanL]
      cases hg : setG c a i x with
      | none => exact ih (i + 1)
      | some r =>
        unfold setG at hg
        split at hg
        · cases hg; exact .inr rfl
        · cases hg
  rcases hf a 0 with h | h <;> rw [h] <;> rfl

/-- What is wrong with a set. -/
def SF (c : List Pack) (a : List Int) : Int := if CF c != 0 then CF c else if setB c a then 0 else 1

theorem SetFault_spec {c : List Pack} {a : List Int} (hc : Cat c) (ha : a.length ≤ 1048576) : spec_SetFault c a = some (SF c a) := by
  unfold spec_SetFault SF
  rw [CatalogFault_spec c hc, l3Set_spec hc.1 ha]
  simp only [Option.bind_some]
  cases CF c != 0 <;> cases setB c a <;> rfl

theorem arePlaces_impl {c : List Pack} {a : List Int} (hc : c.length ≤ 1048576) (ha : a.length ≤ 1048576) : impl_arePlaces c a = some (a.all (fun k => inB k 0 ((c.length : Int) - 1))) := by
  have key := loop_scan a (fun i k => if !(inB k 0 ((c.length : Int) - 1)) then some (i : Int) else none) (b := slices_IndexFunc_Lint64_impl_arePlaces_1_l1b a c) (by
    intro i hi
    unfold slices_IndexFunc_Lint64_impl_arePlaces_1_l1b impl_arePlaces_1
    rw [if_pos (by simp; omega), idx_nat hi, w64_of (x := (c.length : Int) - 1) (by omega) (by omega)]
    simp only [Option.bind_some, within_eq]
    rw [w64_nat (by omega)]
    cases inB a[i] 0 ((c.length : Int) - 1) <;> rfl) (by
    unfold slices_IndexFunc_Lint64_impl_arePlaces_1_l1b
    rw [if_neg (by simp)])
  unfold impl_arePlaces slices_ContainsFunc_Lint64_impl_arePlaces_1 slices_IndexFunc_Lint64_impl_arePlaces_1 slices_IndexFunc_Lint64_impl_arePlaces_1_l1
  rw [key, frs_go]
  have e : a.all (fun k => inB k 0 ((c.length : Int) - 1)) = !(a.any (fun k => !(inB k 0 ((c.length : Int) - 1)))) := by
    rw [List.all_eq_not_any_not]
  rw [e, ← place_ge (scan_place (fun k => !(inB k 0 ((c.length : Int) - 1))) a 0)]
  cases scanL (fun i k => if !(inB k 0 ((c.length : Int) - 1)) then some (i : Int) else none) 0 a <;> rfl

def ordG (a : List Int) (i : Nat) (k : Int) : Option Int := if decide (k ≤ a.getD (i - 1) 0) then some 1 else none

theorem setB_iff (c : List Pack) (a : List Int) : setB c a = ((scanL (ordG a) 1 (a.drop 1)).isNone && a.all (fun k => inB k 0 ((c.length : Int) - 1))) := by
  unfold setB
  rw [Bool.eq_iff_iff, Bool.and_eq_true, Option.isNone_iff_eq_none, Option.isNone_iff_eq_none, scan_none, scan_none, List.all_eq_true]
  constructor
  · intro h
    constructor
    · intro j hj
      have hj' : 1 + j < a.length := by simp at hj; omega
      have := h (1 + j) hj'
      unfold setG at this
      unfold ordG
      rw [List.getElem_drop]
      split at this
      · cases this
      · rename_i hn
        rw [if_neg]
        intro hx
        apply hn
        rw [Nat.zero_add]
        rw [Bool.or_eq_true, Bool.and_eq_true]
        exact .inr ⟨by rw [decide_eq_true_eq]; omega, hx⟩
    · intro k hk
      obtain ⟨i, hi, rfl⟩ := List.mem_iff_getElem.1 hk
      have := h i hi
      unfold setG at this
      split at this
      · cases this
      · rename_i hn
        simp only [Bool.or_eq_true, not_or] at hn
        simpa using hn.1
  · rintro ⟨h1, h2⟩ j hj
    unfold setG
    rw [if_neg]
    rw [Nat.zero_add, h2 _ (List.getElem_mem hj)]
    simp only [Bool.not_true, Bool.false_or, Bool.and_eq_true, not_and]
    intro h0 hx
    have h0' : 0 < j := by simpa using h0
    have hd : j - 1 < (a.drop 1).length := by simp; omega
    have := h1 (j - 1) hd
    unfold ordG at this
    rw [List.getElem_drop] at this
    have ej : 1 + (j - 1) = j := by omega
    simp only [ej] at this
    rw [if_pos hx] at this
    cases this

theorem SetFault_impl {c : List Pack} {a : List Int} (hc : Cat c) (ha : a.length ≤ 1048576) : impl_SetFault c a = some (SF c a) := by
  have hend : impl_SetFault_l1b c a (a.length : Int) = some (.done (.nxt ())) := by
    unfold impl_SetFault_l1b
    rw [if_neg (by simp)]
  have key : impl_SetFault_l1 c a 1 = some (frs (scanL (ordG a) 1 (a.drop 1))) := by
    unfold impl_SetFault_l1
    rcases Nat.eq_zero_or_pos a.length with h0 | h0
    · have : a = [] := List.eq_nil_of_length_eq_zero h0
      subst this
      rw [loop_eq]
      unfold impl_SetFault_l1b
      rw [if_neg (by simp)]
      rfl
    · have hh : ∀ (k i : Nat), 1 ≤ i → i + k = a.length → loop (impl_SetFault_l1b c a) (i : Int) = some (frs (scanL (ordG a) i (a.drop i))) := by
        intro k
        induction k with
        | zero =>
          intro i h1 h
          have e : i = a.length := by omega
          subst e
          rw [loop_eq, hend, List.drop_length]
          rfl
        | succ k ih =>
          intro i h1 h
          have hi : i < a.length := by omega
          have ih := ih (i + 1) (by omega) (by omega)
          rw [loop_eq, List.drop_eq_getElem_cons hi]
          simp only [scanL]
          have hb : impl_SetFault_l1b c a (i : Int) = some (if decide (a[i] ≤ a[i - 1]) then .done (.ret 1) else .go ((i + 1 : Nat) : Int)) := by
            unfold impl_SetFault_l1b
            rw [if_pos (by simp; omega), idx_nat hi, w64_of (x := (i : Int) - 1) (by omega) (by omega), show (i : Int) - 1 = ((i - 1 : Nat) : Int) by omega, idx_nat (show i - 1 < a.length by omega), w64_nat (by omega)]
            simp only [Option.bind_some]
            cases decide (a[i] ≤ a[i - 1]) <;> rfl
          rw [hb]
          unfold ordG
          rw [getD_lt (show i - 1 < a.length by omega)]
          cases decide (a[i] ≤ a[i - 1])
          · exact ih
          · rfl
      exact hh (a.length - 1) 1 (by omega) (by omega)
  unfold impl_SetFault SF
  rw [CatalogFault_impl c hc, key, frs_go, arePlaces_impl hc.1 ha, setB_iff]
  simp only [Option.bind_some]
  have hf : ∀ (l : List Int) (i : Nat), scanL (ordG a) i l = none ∨ scanL (ordG a) i l = some 1 := by
    intro l
    induction l with
    | nil => intro i; exact .inl rfl
    | cons x l ih =>
      intro i
      simp only [scanL]
      cases hg : ordG a i x with
      | none => exact ih (i + 1)
      | some r =>
        unfold ordG at hg
        split at hg
        · cases hg; exact .inr rfl
        · cases hg
  rcases hf (a.drop 1) 1 with h | h <;> rw [h] <;> cases CF c != 0 <;> cases a.all (fun k => inB k 0 ((c.length : Int) - 1)) <;> rfl

theorem SF_places {c : List Pack} {a : List Int} (h : (SF c a == 0) = true) : Places c a := by
  unfold SF at h
  split at h
  · rename_i h1
    rw [beq_iff_eq] at h
    rw [h] at h1
    simp at h1
  · split at h
    · rename_i h2
      rw [setB_iff, Bool.and_eq_true, List.all_eq_true] at h2
      intro k hk
      have := h2.2 k hk
      unfold inB at this
      simp only [Bool.and_eq_true, decide_eq_true_eq] at this
      omega
    · cases h

/-- Is a set whole and without a fault? -/
def conB (c : List Pack) (a : List Int) : Bool := (SF c a == 0) && ((faultsL c a).length : Int) == 0

theorem Consistent_spec {c : List Pack} {a : List Int} (hc : Cat c) (ha : a.length ≤ 1048576) : spec_Consistent c a = some (conB c a) := by
  unfold spec_Consistent conB spec_l3Good
  rw [SetFault_spec hc ha]
  simp only [Option.bind_some]
  cases h : SF c a == 0
  · rfl
  · rw [faults_spec hc (SF_places h) ha]
    simp

theorem consistent_impl {c : List Pack} {a : List Int} (hc : Cat c) (ha : a.length ≤ 1048576) (h : (SF c a == 0) = true) : impl_consistent c a = some (conB c a) := by
  unfold impl_consistent conB
  rw [faults_impl hc (SF_places h) ha, h]
  simp

theorem same_loop {a1 a2 : List Int} (h : a1.length = a2.length) (ha : a1.length ≤ 1048576) {b : Int → Option (Lp Int (Fl Bool Unit))} (hb : b = spec_l6Same_l1b a1 a2 ∨ b = slices_Equal_Lint64_l1b a1 a2) :
    ∃ t, loop b 0 = some t ∧ t = (if a1 = a2 then .nxt () else .ret false) := by
  have hbi : ∀ (i : Nat) (hi : i < a1.length), b (i : Int) = some (if a1[i] = a2[i] then .go ((i + 1 : Nat) : Int) else .done (.ret false)) := by
    intro i hi
    have hi2 : i < a2.length := by omega
    rcases hb with rfl | rfl
    · unfold spec_l6Same_l1b
      rw [if_pos (by simp; omega), idx_nat hi, idx_nat hi2, w64_nat (by omega)]
      simp only [Option.bind_some]
      by_cases e : a1[i] = a2[i] <;> simp [e]
    · unfold slices_Equal_Lint64_l1b
      rw [if_pos (by simp; omega), idx_nat hi, idx_nat hi2, w64_nat (by omega)]
      simp only [Option.bind_some]
      by_cases e : a1[i] = a2[i] <;> simp [e]
  have hbe : b (a1.length : Int) = some (.done (.nxt ())) := by
    rcases hb with rfl | rfl
    · unfold spec_l6Same_l1b
      rw [if_neg (by simp)]
    · unfold slices_Equal_Lint64_l1b
      rw [if_neg (by simp)]
  refine loop_up (b := b) (fun i s => s = (i : Int) ∧ ∀ j, (h1 : j < a1.length) → (h2 : j < a2.length) → j < i → a1[j] = a2[j]) a1.length (fun t => t = (if a1 = a2 then .nxt () else .ret false)) (by
    rintro i s hi ⟨rfl, hI⟩
    have e := hbi i hi
    by_cases hx : a1[i] = a2[i]
    · rw [if_pos hx] at e
      refine .inl ⟨_, e, rfl, fun j h1 h2 hj => ?_⟩
      by_cases hji : j = i
      · subst hji; exact hx
      · exact hI j h1 h2 (by omega)
    · rw [if_neg hx] at e
      refine .inr ⟨_, e, ?_⟩
      rw [if_neg]
      intro e'
      apply hx
      simp [e']) (by
    rintro s ⟨rfl, hI⟩
    refine ⟨_, hbe, ?_⟩
    rw [if_pos]
    apply List.ext_getElem h
    intro i h1 h2
    exact hI i h1 h2 h1) a1.length 0 0 (by omega) ⟨rfl, fun _ _ _ h => by omega⟩

theorem Same_spec (a1 a2 : List Int) (h1 : a1.length ≤ 1048576) : spec_l6Same a1 a2 = some (decide (a1 = a2)) := by
  unfold spec_l6Same
  by_cases h : a1.length = a2.length
  · rw [if_neg (by simp [h])]
    obtain ⟨t, e, ht⟩ := same_loop h h1 (.inl rfl)
    unfold spec_l6Same_l1
    rw [e, ht]
    by_cases e : a1 = a2 <;> simp [e, Fl.go]
  · rw [if_pos (by simp; omega)]
    congr 1
    symm
    rw [decide_eq_false_iff_not]
    intro e
    exact h (by rw [e])

theorem Equal_impl (a1 a2 : List Int) (h1 : a1.length ≤ 1048576) : slices_Equal_Lint64 a1 a2 = some (decide (a1 = a2)) := by
  unfold slices_Equal_Lint64
  by_cases h : a1.length = a2.length
  · rw [if_neg (by simp [h])]
    obtain ⟨t, e, ht⟩ := same_loop h h1 (.inr rfl)
    unfold slices_Equal_Lint64_l1
    rw [e, ht]
    by_cases e : a1 = a2 <;> simp [e, Fl.go]
  · rw [if_pos (by simp; omega)]
    congr 1
    symm
    rw [decide_eq_false_iff_not]
    intro e
    exact h (by rw [e])

theorem CheckPlan_both (a1 : List Pack) (a2 : List Int) (a3 : List (List Int)) (_ : a1.length ≤ maxLen ∧ ∀ y1 ∈ a1, Pack.ok y1) (_ : a2.length ≤ maxLen ∧ ∀ y1 ∈ a2, IntKind.i64.min ≤ y1 ∧ y1 ≤ IntKind.i64.max) (_ : a3.length ≤ maxLen ∧ ∀ y1 ∈ a3, y1.length ≤ maxLen ∧ ∀ y2 ∈ y1, IntKind.i64.min ≤ y2 ∧ y2 ≤ IntKind.i64.max)
    (hc : a1.length ≤ 1048576 ∧ ∀ y0 ∈ a1, Pack.sm 1048576 y0) (h2 : a2.length ≤ 1048576 ∧ ∀ y0 ∈ a2, True) (h3 : a3.length ≤ 1048576 ∧ ∀ y0 ∈ a3, y0.length ≤ 1048576 ∧ ∀ y1 ∈ y0, True) : ∃ r, spec_CheckPlan a1 a2 a3 = some r ∧ impl_CheckPlan a1 a2 a3 = some r ∧ True := by
  have hs : ∀ (i : Nat) (s : List Int) (hi : i < a3.length), s.length ≤ 1048576 → spec_CheckPlan_l1b a1 a3 (s, (i : Int)) = some (if !(conB a1 a3[i]) || decide (s = a3[i]) then .done (.ret false) else .go (a3[i], ((i + 1 : Nat) : Int))) := by
    intro i s hi hl
    have hx := (h3.2 _ (List.getElem_mem hi)).1
    unfold spec_CheckPlan_l1b
    rw [if_pos (by simp; omega), idx_nat hi]
    simp only [Option.bind_some]
    rw [Consistent_spec hc hx, w64_nat (by omega)]
    simp only [Option.bind_some]
    rw [Same_spec _ _ hl]
    cases conB a1 a3[i] <;> cases decide (s = a3[i]) <;> rfl
  have hi2 : ∀ (i : Nat) (s : List Int) (hi : i < a3.length), s.length ≤ 1048576 → impl_CheckPlan_l1b a1 a3 (s, (i : Int)) = some (if !(conB a1 a3[i]) || decide (s = a3[i]) then .done (.ret false) else .go (a3[i], ((i + 1 : Nat) : Int))) := by
    intro i s hi hl
    have hx := (h3.2 _ (List.getElem_mem hi)).1
    unfold impl_CheckPlan_l1b
    rw [if_pos (by simp; omega), idx_nat hi]
    simp only [Option.bind_some]
    rw [SetFault_impl hc hx, w64_nat (by omega)]
    simp only [Option.bind_some]
    cases h : SF a1 a3[i] == 0
    · have hn : (SF a1 a3[i] != 0) = true := by rw [bne, h]; rfl
      have hcon : conB a1 a3[i] = false := by unfold conB; rw [h]; rfl
      rw [hn, hcon]
      rfl
    · have hn : (SF a1 a3[i] != 0) = false := by rw [bne, h]; rfl
      rw [hn, consistent_impl hc hx h, Equal_impl _ _ hx]
      have e : decide (a3[i] = s) = decide (s = a3[i]) := by rw [Bool.eq_iff_iff, decide_eq_true_eq, decide_eq_true_eq]; exact eq_comm
      rw [e]
      cases conB a1 a3[i] <;> cases decide (s = a3[i]) <;> rfl
  have key : ∀ (k i : Nat) (s : List Int), i + k = a3.length → s.length ≤ 1048576 → ∃ t, loop (spec_CheckPlan_l1b a1 a3) (s, (i : Int)) = some t ∧ loop (impl_CheckPlan_l1b a1 a3) (s, (i : Int)) = some t := by
    intro k
    induction k with
    | zero =>
      intro i s h hl
      have e : i = a3.length := by omega
      subst e
      refine ⟨.nxt (), ?_, ?_⟩
      · rw [loop_eq]
        unfold spec_CheckPlan_l1b
        rw [if_neg (by simp)]
        rfl
      · rw [loop_eq]
        unfold impl_CheckPlan_l1b
        rw [if_neg (by simp)]
        rfl
    | succ k ih =>
      intro i s h hl
      have hi : i < a3.length := by omega
      rw [loop_eq, loop_eq (b := impl_CheckPlan_l1b a1 a3), hs i s hi hl, hi2 i s hi hl]
      cases hh : !(conB a1 a3[i]) || decide (s = a3[i])
      · exact ih (i + 1) a3[i] (by omega) (h3.2 _ (List.getElem_mem hi)).1
      · exact ⟨_, rfl, rfl⟩
  obtain ⟨t, e1, e2⟩ := key a3.length 0 a2 (by omega) h2.1
  rw [show ((0 : Nat) : Int) = 0 from rfl] at e1 e2
  unfold spec_CheckPlan impl_CheckPlan spec_CheckPlan_l1 impl_CheckPlan_l1
  rw [Consistent_spec hc h2.1, SetFault_impl hc h2.1, e1, e2]
  simp only [Option.bind_some]
  cases h : SF a1 a2 == 0
  · have hn : (SF a1 a2 != 0) = true := by rw [bne, h]; rfl
    have hcon : conB a1 a2 = false := by unfold conB; rw [h]; rfl
    rw [hn, hcon]
    exact ⟨_, rfl, rfl, trivial⟩
  · have hn : (SF a1 a2 != 0) = false := by rw [bne, h]; rfl
    rw [hn, consistent_impl hc h2.1 h]
    cases conB a1 a2
    · exact ⟨_, rfl, rfl, trivial⟩
    · cases t <;> exact ⟨_, rfl, rfl, trivial⟩
theorem FnExactCheckPlan_law (a1 : (List Pack)) (a2 : (List Int)) (a3 : (List (List Int))) (k0 : a1.length ≤ maxLen ∧ ∀ y1 ∈ a1, Pack.ok y1) (k1 : a2.length ≤ maxLen ∧ ∀ y1 ∈ a2, IntKind.i64.min ≤ y1 ∧ y1 ≤ IntKind.i64.max) (k2 : a3.length ≤ maxLen ∧ ∀ y1 ∈ a3, y1.length ≤ maxLen ∧ ∀ y2 ∈ y1, IntKind.i64.min ≤ y2 ∧ y2 ≤ IntKind.i64.max) : laws_FnExactCheckPlan a1 a2 a3 = some true := FnExactCheckPlan_true a1 a2 a3 k0 k1 k2 (CheckPlan_both a1 a2 a3 k0 k1 k2)
end Go.Told

import Derived.Test.YtnfkinofcphflaaGreatDoorToldSetOfGen
set_option linter.unusedVariables false
set_option maxRecDepth 4000
namespace Go.Told
open Go Go.Im

/-! ### Loops and lists in general -/
theorem loop_congr {S T : Type} {b b' : S → Option (Lp S T)} (h : ∀ s, b s = b' s) : loop b = loop b' := by
  have : b = b' := funext h
  rw [this]

theorem w64_of {x : Int} (h1 : -9223372036854775808 ≤ x) (h2 : x ≤ 9223372036854775807) : w64 x = x := by
  unfold w64
  rw [IntKind.wrap_i64]
  omega

theorem w64_nat {i : Nat} (h : i < 9223372036854775807) : w64 ((i : Int) + 1) = ((i + 1 : Nat) : Int) := by
  rw [w64_of (by omega) (by omega)]; omega

/-- Going through a list from the front. -/
theorem loop_up {T : Type} {S : Type} {b : S → Option (Lp S T)} (I : Nat → S → Prop) (n : Nat) (Q : T → Prop) (hstep : ∀ i s, i < n → I i s → (∃ s', b s = some (.go s') ∧ I (i + 1) s') ∨ ∃ t, b s = some (.done t) ∧ Q t)
    (hend : ∀ s, I n s → ∃ t, b s = some (.done t) ∧ Q t) : ∀ (k i : Nat) (s : S), i + k = n → I i s → ∃ t, loop b s = some t ∧ Q t
  | 0, i, s, hk, hI => by
    obtain ⟨t, h1, h2⟩ := hend s (by rw [show n = i by omega]; exact hI)
    exact ⟨t, by rw [loop_eq, h1]; rfl, h2⟩
  | k + 1, i, s, hk, hI => by
    rcases hstep i s (by omega) hI with ⟨s', h1, h2⟩ | ⟨t, h1, h2⟩
    · obtain ⟨t, h3, h4⟩ := loop_up I n Q hstep hend k (i + 1) s' (by omega) h2
      exact ⟨t, by rw [loop_eq, h1]; exact h3, h4⟩
    · exact ⟨t, by rw [loop_eq, h1]; rfl, h2⟩

theorem idx_nat {α : Type} {xs : List α} {i : Nat} (h : i < xs.length) : idx xs (i : Int) = some xs[i] := by
  unfold idx
  rw [if_pos (by omega)]
  simp [h]

theorem idx_append {α : Type} (l r : List α) (x : α) : idx (l ++ x :: r) (l.length : Int) = some x := by
  rw [idx_nat (by simp)]
  simp

/-- What a walk over a list comes to. -/
def goL {α A T : Type} (g : Nat → A → α → Lp A T) (fin : A → T) : Nat → List α → A → T
  | _, [], a => fin a
  | i, x :: xs, a => match g i a x with
    | .go a' => goL g fin (i + 1) xs a'
    | .done t => t

theorem loop_goL {α A S T : Type} (xs : List α) (g : Nat → A → α → Lp A T) (fin : A → T) (e : Nat → A → S) (I : Nat → A → Prop) {b : S → Option (Lp S T)}
    (hstep : ∀ (i : Nat) (a : A) (hi : i < xs.length), I i a → b (e i a) = some (match g i a xs[i] with | .go a' => .go (e (i + 1) a') | .done t => .done t) ∧ ∀ a', g i a xs[i] = .go a' → I (i + 1) a')
    (hend : ∀ a, I xs.length a → b (e xs.length a) = some (.done (fin a))) : ∀ (k i : Nat) (a : A), i + k = xs.length → I i a → loop b (e i a) = some (goL g fin i (xs.drop i) a)
  | 0, i, a, hk, hI => by
    have : i = xs.length := by omega
    subst this
    rw [loop_eq, hend a hI, List.drop_length]; rfl
  | k + 1, i, a, hk, hI => by
    have hi : i < xs.length := by omega
    obtain ⟨h1, h2⟩ := hstep i a hi hI
    rw [loop_eq, h1, List.drop_eq_getElem_cons hi]
    simp only [goL]
    cases hg : g i a xs[i] with
    | go a' =>
      simp only [Option.bind_some, Lp.elim]
      exact loop_goL xs g fin e I hstep hend k (i + 1) a' (by omega) (h2 a' hg)
    | done t => rfl

theorem loop_list {α A S T : Type} (xs : List α) (g : Nat → A → α → Lp A T) (fin : A → T) (e : Nat → A → S) (I : Nat → A → Prop) {b : S → Option (Lp S T)} (a0 : A)
    (hstep : ∀ (i : Nat) (a : A) (hi : i < xs.length), I i a → b (e i a) = some (match g i a xs[i] with | .go a' => .go (e (i + 1) a') | .done t => .done t) ∧ ∀ a', g i a xs[i] = .go a' → I (i + 1) a')
    (hend : ∀ a, I xs.length a → b (e xs.length a) = some (.done (fin a))) (h0 : I 0 a0) : loop b (e 0 a0) = some (goL g fin 0 xs a0) := by
  have := loop_goL xs g fin e I hstep hend xs.length 0 a0 (by omega) h0
  simpa using this

/-- A list that is copied element by element. -/
theorem to_loop {α : Type} (xs : List α) {b : (List α × Int) → Option (Lp (List α × Int) (List α))} (hstep : ∀ (ys : List α) (i : Nat) (hi : i < xs.length), ys.length = xs.length → b (ys, (i : Int)) = some (.go (ys.set i xs[i], ((i + 1 : Nat) : Int))))
    (hend : ∀ ys : List α, ys.length = xs.length → b (ys, (xs.length : Int)) = some (.done ys)) (y0 : List α) (h0 : y0.length = xs.length) : loop b (y0, 0) = some xs := by
  obtain ⟨t, h1, h2⟩ := loop_up (b := b) (fun i s => s.2 = (i : Int) ∧ s.1.length = xs.length ∧ s.1.take i = xs.take i) xs.length (fun t => t = xs) (by
    rintro i ⟨ys, j⟩ hi ⟨hj, hl, hp⟩
    simp only at hj hl hp
    subst hj
    refine .inl ⟨_, hstep ys i hi hl, rfl, by simpa using hl, ?_⟩
    simp only
    rw [List.take_succ_eq_append_getElem (by simp; omega), List.take_succ_eq_append_getElem hi, ← hp, List.take_set_of_le (Nat.le_refl _)]
    simp) (by
    rintro ⟨ys, j⟩ ⟨hj, hl, hp⟩
    simp only at hj hl hp
    subst hj
    refine ⟨ys, hend ys hl, ?_⟩
    rw [List.take_of_length_le (by omega), List.take_of_length_le (by omega)] at hp
    exact hp) xs.length 0 (y0, 0) (by omega) ⟨rfl, h0, by simp⟩
  rw [h1, h2]

/-- Two lists held against each other that are one. -/
theorem eq_loop {R : Type} (n : Nat) {b : Int → Option (Lp Int (Fl R Unit))} (hstep : ∀ i : Nat, i < n → b (i : Int) = some (.go ((i + 1 : Nat) : Int))) (hend : b (n : Int) = some (.done (.nxt ()))) : loop b 0 = some (.nxt ()) := by
  obtain ⟨t, h1, h2⟩ := loop_up (b := b) (fun i s => s = (i : Int)) n (fun t => t = .nxt ()) (by
    rintro i s hi rfl
    exact .inl ⟨_, hstep i hi, rfl⟩) (by
    rintro s rfl
    exact ⟨_, hend, rfl⟩) n 0 0 (by omega) rfl
  rw [h1, h2]

/-- What is left of a size. -/
theorem sz_loop {α : Type} (xs : List α) (P : α → Prop) (l : Int) {b : (Int × Int) → Option (Lp (Int × Int) (Fl Int Int))}
    (hstep : ∀ (q : Int) (i : Nat) (hi : i < xs.length), 0 ≤ q → q ≤ l → (∃ q', b (q, (i : Int)) = some (.go (q', ((i + 1 : Nat) : Int))) ∧ 0 ≤ q' ∧ q' ≤ q ∧ P xs[i]) ∨ ∃ t, b (q, (i : Int)) = some (.done (.ret t)) ∧ t < 0)
    (hend : ∀ q : Int, b (q, (xs.length : Int)) = some (.done (.nxt q))) (h0 : 0 ≤ l) :
    ∃ t, loop b (l, 0) = some t ∧ match t with | .ret r => r < 0 | .nxt r => 0 ≤ r ∧ r ≤ l ∧ ∀ x ∈ xs, P x := by
  refine loop_up (b := b) (fun i s => s.2 = (i : Int) ∧ 0 ≤ s.1 ∧ s.1 ≤ l ∧ ∀ j, (hj : j < xs.length) → j < i → P xs[j]) xs.length _ (by
    rintro i ⟨q, j⟩ hi ⟨hj, h1, h2, h3⟩
    simp only at hj h1 h2 h3
    subst hj
    rcases hstep q i hi h1 h2 with ⟨q', e, g1, g2, g3⟩ | ⟨t, e, ht⟩
    · refine .inl ⟨_, e, rfl, g1, by simp only; omega, fun j hj hji => ?_⟩
      rcases Nat.lt_or_ge j i with h | h
      · exact h3 j hj h
      · have : j = i := by omega
        subst this; exact g3
    · exact .inr ⟨_, e, ht⟩) (by
    rintro ⟨q, j⟩ ⟨hj, h1, h2, h3⟩
    simp only at hj h1 h2 h3
    subst hj
    refine ⟨_, hend q, h1, h2, fun x hx => ?_⟩
    obtain ⟨j, hj, rfl⟩ := List.getElem_of_mem hx
    exact h3 j hj hj) xs.length 0 (l, 0) (by omega) ⟨rfl, h0, Int.le_refl _, fun j _ h => by omega⟩

/-! ### Marks -/
def pm {α : Type} (m : α → Int → α) (c : α → Int) : List α → Int → List α
  | [], _ => []
  | x :: xs, k => m x k :: pm m c xs (k + c x)

def cs {α : Type} (c : α → Int) : List α → Int
  | [] => 0
  | x :: xs => c x + cs c xs

theorem pm_length {α : Type} (m : α → Int → α) (c : α → Int) : ∀ (xs : List α) (k : Int), (pm m c xs k).length = xs.length
  | [], _ => rfl
  | x :: xs, k => by simp [pm, pm_length m c xs]

theorem cs_nonneg {α : Type} {c : α → Int} (hc : ∀ a, 0 ≤ c a) : ∀ (xs : List α), 0 ≤ cs c xs
  | [] => Int.le_refl _
  | x :: xs => by have := hc x; have := cs_nonneg hc xs; simp only [cs]; omega

theorem cs_le {α : Type} {c : α → Int} {C : Int} {N : Nat} (hC : 0 ≤ C) : ∀ (xs : List α), (∀ a ∈ xs, c a ≤ C) → xs.length ≤ N → cs c xs ≤ N * C
  | [], _, _ => Int.mul_nonneg (by omega) hC
  | x :: xs, h, hl => by
    have h1 := h x (by simp)
    simp only [List.length_cons] at hl
    have h2 := cs_le (N := N - 1) hC xs (fun a ha => h a (by simp [ha])) (by omega)
    simp only [cs]
    have : ((N - 1 : Nat) : Int) * C + C = N * C := by
      have e : ((N - 1 : Nat) : Int) = (N : Int) - 1 := by omega
      rw [e, Int.sub_mul, Int.one_mul]; omega
    omega

theorem mark_loop {α : Type} (m : α → Int → α) (c : α → Int) (P : α → Prop) (hc : ∀ a, 0 ≤ c a) {b : (List α × Int × Int) → Option (Lp (List α × Int × Int) (List α × Int))}
    (hstep : ∀ (l r : List α) (x : α) (k : Int), P x → 0 ≤ k → k + c x ≤ 9223372036854775807 → l.length < 9223372036854775807 → b (l ++ x :: r, k, (l.length : Int)) = some (.go (l ++ m x k :: r, k + c x, ((l.length + 1 : Nat) : Int))))
    (hend : ∀ (l : List α) (k : Int), b (l, k, (l.length : Int)) = some (.done (l, k))) : ∀ (xs l : List α) (k : Int), (∀ x ∈ xs, P x) → 0 ≤ k → k + cs c xs ≤ 9223372036854775807 → l.length + xs.length < 9223372036854775807 →
    loop b (l ++ xs, k, (l.length : Int)) = some (l ++ pm m c xs k, k + cs c xs)
  | [], l, k, _, _, _, _ => by
    rw [loop_eq, List.append_nil, hend]
    simp [pm, cs, Lp.elim]
  | x :: xs, l, k, hP, h0, h1, h2 => by
    have hx := hc x
    have hxs := cs_nonneg hc xs
    simp only [cs] at h1
    simp only [List.length_cons] at h2
    rw [loop_eq, hstep l xs x k (hP x (by simp)) h0 (by omega) (by omega)]
    simp only [Option.bind_some, Lp.elim]
    have := mark_loop m c P hc hstep hend xs (l ++ [m x k]) (k + c x) (fun y hy => hP y (by simp [hy])) (by omega) (by omega) (by simp; omega)
    simp only [List.length_append, List.length_cons, List.length_nil, List.append_assoc, List.cons_append, List.nil_append] at this
    rw [this]
    simp only [pm, cs]
    congr 2
    omega

theorem held_loop {α : Type} (m : α → Int → α) (c : α → Int) (P : α → Prop) (hc : ∀ a, 0 ≤ c a) {b : List α → (Int × Int) → Option (Lp (Int × Int) (Fl Int Int))}
    (hstep : ∀ (l r : List α) (x : α) (k : Int), P x → 0 ≤ k → k + c x ≤ 9223372036854775807 → l.length < 9223372036854775807 → b (l ++ m x k :: r) (k, (l.length : Int)) = some (.go (k + c x, ((l.length + 1 : Nat) : Int))))
    (hend : ∀ (l : List α) (k : Int), b l (k, (l.length : Int)) = some (.done (.nxt k))) : ∀ (xs l : List α) (k : Int), (∀ x ∈ xs, P x) → 0 ≤ k → k + cs c xs ≤ 9223372036854775807 → l.length + xs.length < 9223372036854775807 →
    loop (b (l ++ pm m c xs k)) (k, (l.length : Int)) = some (.nxt (k + cs c xs))
  | [], l, k, _, _, _, _ => by
    rw [loop_eq, pm, List.append_nil, hend]
    simp [cs, Lp.elim]
  | x :: xs, l, k, hP, h0, h1, h2 => by
    have hx := hc x
    have hxs := cs_nonneg hc xs
    simp only [cs] at h1
    simp only [List.length_cons] at h2
    rw [pm, loop_eq, hstep l _ x k (hP x (by simp)) h0 (by omega) (by omega)]
    simp only [Option.bind_some, Lp.elim]
    have := held_loop m c P hc hstep hend xs (l ++ [m x k]) (k + c x) (fun y hy => hP y (by simp [hy])) (by omega) (by omega) (by simp; omega)
    simp only [List.length_append, List.length_cons, List.length_nil, List.append_assoc, List.cons_append, List.nil_append] at this
    rw [this]
    simp only [cs]
    congr 2
    omega

theorem same_of {α β : Type} {xs : List α} {ys : List β} (h : xs.length = ys.length) : same xs ys = some () := if_pos h

theorem set_app {α : Type} (l r : List α) (x y : α) : (l ++ x :: r).set l.length y = l ++ y :: r := by
  rw [List.set_append_right _ _ (Nat.le_refl _)]
  simp

/-- One mark. -/
def c1 {α : Type} (_ : α) : Int := 1

theorem c1_nonneg {α : Type} (a : α) : 0 ≤ c1 a := by unfold c1; decide

theorem app_of {α : Type} {B : Nat} {xs ys : List α} (h : (xs.length + ys.length) * B ≤ 140737488355328) (h2 : xs.length + ys.length ≤ 4611686018427387904) : app B xs ys = some (xs ++ ys) := if_pos ⟨h, h2⟩

theorem loop_meas {S T : Type} {b : S → Option (Lp S T)} (I : S → Prop) (μ : S → Nat) (Q : T → Prop) (step : ∀ s, I s → (∃ s', b s = some (.go s') ∧ I s' ∧ μ s' < μ s) ∨ ∃ t, b s = some (.done t) ∧ Q t) : ∀ (n : Nat) (s : S), μ s ≤ n → I s → ∃ t, loop b s = some t ∧ Q t
  | 0, s, hn, hI => by
    rcases step s hI with ⟨s', _, _, h3⟩ | ⟨t, h1, h2⟩
    · omega
    · exact ⟨t, by rw [loop_eq, h1]; rfl, h2⟩
  | n + 1, s, hn, hI => by
    rcases step s hI with ⟨s', h1, h2, h3⟩ | ⟨t, h1, h2⟩
    · obtain ⟨t, h4, h5⟩ := loop_meas I μ Q step n s' (by omega) h2
      exact ⟨t, by rw [loop_eq, h1]; exact h4, h5⟩
    · exact ⟨t, by rw [loop_eq, h1]; rfl, h2⟩

def Version.ok (x : Version) : Prop := (IntKind.i64.min ≤ x.A ∧ x.A ≤ IntKind.i64.max) ∧ (IntKind.i64.min ≤ x.B ∧ x.B ≤ IntKind.i64.max) ∧ (IntKind.i64.min ≤ x.C ∧ x.C ≤ IntKind.i64.max)

def Term.ok (x : Term) : Prop := (x.Name.size ≤ maxLen) ∧ (Version.ok x.Low) ∧ (Version.ok x.High)

def Pack.ok (x : Pack) : Prop := (x.Name.size ≤ maxLen) ∧ (Version.ok x.Version) ∧ (IntKind.i64.min ≤ x.Size ∧ x.Size ≤ IntKind.i64.max) ∧ (x.Provides.length ≤ maxLen ∧ ∀ y1 ∈ x.Provides, y1.size ≤ maxLen) ∧ (x.Needs.length ≤ maxLen ∧ ∀ y1 ∈ x.Needs, y1.length ≤ maxLen ∧ ∀ y2 ∈ y1, Term.ok y2) ∧ (x.Bars.length ≤ maxLen ∧ ∀ y1 ∈ x.Bars, Term.ok y1)

def File.ok (x : File) : Prop := (x.Path.size ≤ maxLen) ∧ (x.Data.length ≤ maxLen ∧ ∀ y1 ∈ x.Data, IntKind.u8.min ≤ y1 ∧ y1 ≤ IntKind.u8.max)

def Disk.ok (x : Disk) : Prop := (x.Files.length ≤ maxLen ∧ ∀ y1 ∈ x.Files, File.ok y1) ∧ (IntKind.i64.min ≤ x.Budget ∧ x.Budget ≤ IntKind.i64.max) ∧ (IntKind.i64.min ≤ x.Writes ∧ x.Writes ≤ IntKind.i64.max) ∧ (IntKind.i64.min ≤ x.Stop ∧ x.Stop ≤ IntKind.i64.max) ∧ (True)

theorem szByteS_ok (x : (List Int)) (hx : x.length ≤ maxLen ∧ ∀ y1 ∈ x, IntKind.u8.min ≤ y1 ∧ y1 ≤ IntKind.u8.max) (l : Int) (h0 : 0 ≤ l) (h1 : l ≤ 1048576) : ∃ r, laws_szByteS x l = some r ∧ (r < 0 ∨ (0 ≤ r ∧ r ≤ l ∧ (x.length ≤ 1048576 ∧ ∀ y0 ∈ x, True))) := by
  obtain ⟨hm, hx⟩ := hx
  unfold maxLen at hm
  unfold laws_szByteS
  rw [w64_of (x := l - x.length) (by omega) (by omega)]
  by_cases c1 : l - (x.length : Int) < 0
  · rw [if_pos (by simpa using c1)]
    exact ⟨_, rfl, .inl (by omega)⟩
  · rw [if_neg (by simpa using c1)]
    exact ⟨_, rfl, .inr ⟨by omega, by omega, by omega, fun _ _ => trivial⟩⟩

def File.sm (B : Nat) (x : File) : Prop := (x.Path.size ≤ B) ∧ (x.Data.length ≤ B ∧ ∀ y0 ∈ x.Data, True)

def Disk.sm (B : Nat) (x : Disk) : Prop := (x.Files.length ≤ B ∧ ∀ y0 ∈ x.Files, File.sm B y0) ∧ (True) ∧ (True) ∧ (True) ∧ (True)

theorem szFile_ok (x : File) (hx : File.ok x) (l : Int) (h0 : 0 ≤ l) (h1 : l ≤ 1048576) : ∃ r, laws_szFile x l = some r ∧ (r < 0 ∨ (0 ≤ r ∧ r ≤ l ∧ (File.sm 1048576 x))) := by
  obtain ⟨k0, k1⟩ := hx
  unfold maxLen at *
  unfold laws_szFile
  rw [w64_of (x := l - x.Path.size) (by omega) (by omega)]
  by_cases c0 : l - (x.Path.size : Int) < 0
  · rw [if_pos (by simpa using c0)]
    exact ⟨_, rfl, .inl (by omega)⟩
  rw [if_neg (by simpa using c0)]
  obtain ⟨r1, e1, g1⟩ := szByteS_ok x.Data k1 (l - x.Path.size) (by omega) (by omega)
  rw [e1]
  simp only [Option.bind_some]
  by_cases c1 : r1 < 0
  · rw [if_pos (by simpa using c1)]
    exact ⟨_, rfl, .inl (by omega)⟩
  rw [if_neg (by simpa using c1)]
  obtain ⟨p1, q1, z1⟩ := g1.resolve_left c1
  exact ⟨_, rfl, .inr ⟨by omega, by omega, by omega, z1⟩⟩

theorem szFileS_ok (x : (List File)) (hx : x.length ≤ maxLen ∧ ∀ y1 ∈ x, File.ok y1) (l : Int) (h0 : 0 ≤ l) (h1 : l ≤ 1048576) : ∃ r, laws_szFileS x l = some r ∧ (r < 0 ∨ (0 ≤ r ∧ r ≤ l ∧ (x.length ≤ 1048576 ∧ ∀ y0 ∈ x, File.sm 1048576 y0))) := by
  obtain ⟨hm, hx⟩ := hx
  unfold maxLen at hm
  unfold laws_szFileS
  rw [w64_of (x := l - x.length) (by omega) (by omega)]
  by_cases c1 : l - (x.length : Int) < 0
  · rw [if_pos (by simpa using c1)]
    exact ⟨_, rfl, .inl (by omega)⟩
  · rw [if_neg (by simpa using c1)]
    have key := sz_loop x (fun y0 => File.sm 1048576 y0) (l - x.length) (b := laws_szFileS_l1b x) ?_ ?_ (by omega)
    · obtain ⟨t, h2, h3⟩ := key
      unfold laws_szFileS_l1
      rw [h2]
      cases t with
      | ret r => exact ⟨r, rfl, .inl h3⟩
      | nxt r => exact ⟨r, rfl, .inr ⟨h3.1, by have := h3.2.1; omega, by omega, h3.2.2⟩⟩
    · intro q i hi hq0 hq1
      unfold laws_szFileS_l1b
      rw [if_pos (by simp; omega)]
      simp only [idx_nat hi, Option.bind_some]
      have hi2 : w64 ((i : Int) + 1) = ((i + 1 : Nat) : Int) := w64_nat (by omega)
      obtain ⟨r, e, hr⟩ := szFile_ok x[i] (hx _ (List.getElem_mem hi)) q hq0 (by omega)
      rw [e]
      simp only [Option.bind_some]
      by_cases c : r < 0
      · rw [if_pos (by simpa using c)]
        exact .inr ⟨_, rfl, by omega⟩
      · rw [if_neg (by simpa using c), hi2]
        obtain ⟨g1, g2, g3⟩ := hr.resolve_left c
        exact .inl ⟨_, rfl, g1, g2, g3⟩
    · intro q
      unfold laws_szFileS_l1b
      rw [if_neg (by simp)]

theorem szDisk_ok (x : Disk) (hx : Disk.ok x) (l : Int) (h0 : 0 ≤ l) (h1 : l ≤ 1048576) : ∃ r, laws_szDisk x l = some r ∧ (r < 0 ∨ (0 ≤ r ∧ r ≤ l ∧ (Disk.sm 1048576 x))) := by
  obtain ⟨k0, k1, k2, k3, k4⟩ := hx
  unfold maxLen at *
  unfold laws_szDisk
  obtain ⟨r0, e0, g0⟩ := szFileS_ok x.Files k0 l (by omega) (by omega)
  rw [e0]
  simp only [Option.bind_some]
  by_cases c0 : r0 < 0
  · rw [if_pos (by simpa using c0)]
    exact ⟨_, rfl, .inl (by omega)⟩
  rw [if_neg (by simpa using c0)]
  obtain ⟨p0, q0, z0⟩ := g0.resolve_left c0
  exact ⟨_, rfl, .inr ⟨by omega, by omega, z0, trivial, trivial, trivial, trivial⟩⟩

def Version.sm (B : Nat) (x : Version) : Prop := (True) ∧ (True) ∧ (True)

def Term.sm (B : Nat) (x : Term) : Prop := (x.Name.size ≤ B) ∧ (Version.sm B x.Low) ∧ (Version.sm B x.High)

def Pack.sm (B : Nat) (x : Pack) : Prop := (x.Name.size ≤ B) ∧ (Version.sm B x.Version) ∧ (True) ∧ (x.Provides.length ≤ B ∧ ∀ y0 ∈ x.Provides, y0.size ≤ B) ∧ (x.Needs.length ≤ B ∧ ∀ y0 ∈ x.Needs, y0.length ≤ B ∧ ∀ y1 ∈ y0, Term.sm B y1) ∧ (x.Bars.length ≤ B ∧ ∀ y0 ∈ x.Bars, Term.sm B y0)

theorem szStringS_ok (x : (List ByteArray)) (hx : x.length ≤ maxLen ∧ ∀ y1 ∈ x, y1.size ≤ maxLen) (l : Int) (h0 : 0 ≤ l) (h1 : l ≤ 1048576) : ∃ r, laws_szStringS x l = some r ∧ (r < 0 ∨ (0 ≤ r ∧ r ≤ l ∧ (x.length ≤ 1048576 ∧ ∀ y0 ∈ x, y0.size ≤ 1048576))) := by
  obtain ⟨hm, hx⟩ := hx
  unfold maxLen at hm
  unfold laws_szStringS
  rw [w64_of (x := l - x.length) (by omega) (by omega)]
  by_cases c1 : l - (x.length : Int) < 0
  · rw [if_pos (by simpa using c1)]
    exact ⟨_, rfl, .inl (by omega)⟩
  · rw [if_neg (by simpa using c1)]
    have key := sz_loop x (fun y0 => y0.size ≤ 1048576) (l - x.length) (b := laws_szStringS_l1b x) ?_ ?_ (by omega)
    · obtain ⟨t, h2, h3⟩ := key
      unfold laws_szStringS_l1
      rw [h2]
      cases t with
      | ret r => exact ⟨r, rfl, .inl h3⟩
      | nxt r => exact ⟨r, rfl, .inr ⟨h3.1, by have := h3.2.1; omega, by omega, h3.2.2⟩⟩
    · intro q i hi hq0 hq1
      unfold laws_szStringS_l1b
      rw [if_pos (by simp; omega)]
      simp only [idx_nat hi, Option.bind_some]
      have hi2 : w64 ((i : Int) + 1) = ((i + 1 : Nat) : Int) := w64_nat (by omega)
      have hs := hx _ (List.getElem_mem hi)
      unfold maxLen at hs
      rw [w64_of (x := q - (x[i]).size) (by omega) (by omega)]
      by_cases c : q - ((x[i]).size : Int) < 0
      · rw [if_pos (by simpa using c)]
        exact .inr ⟨_, rfl, by omega⟩
      · rw [if_neg (by simpa using c), hi2]
        exact .inl ⟨_, rfl, by omega, by omega, by show (x[i]).size ≤ 1048576; omega⟩
    · intro q
      unfold laws_szStringS_l1b
      rw [if_neg (by simp)]

theorem szTerm_ok (x : Term) (hx : Term.ok x) (l : Int) (h0 : 0 ≤ l) (h1 : l ≤ 1048576) : ∃ r, laws_szTerm x l = some r ∧ (r < 0 ∨ (0 ≤ r ∧ r ≤ l ∧ (Term.sm 1048576 x))) := by
  obtain ⟨k0, k1, k2⟩ := hx
  unfold maxLen at *
  unfold laws_szTerm
  rw [w64_of (x := l - x.Name.size) (by omega) (by omega)]
  by_cases c0 : l - (x.Name.size : Int) < 0
  · rw [if_pos (by simpa using c0)]
    exact ⟨_, rfl, .inl (by omega)⟩
  rw [if_neg (by simpa using c0)]
  exact ⟨_, rfl, .inr ⟨by omega, by omega, by omega, ⟨trivial, trivial, trivial⟩, ⟨trivial, trivial, trivial⟩⟩⟩

theorem szTermS_ok (x : (List Term)) (hx : x.length ≤ maxLen ∧ ∀ y1 ∈ x, Term.ok y1) (l : Int) (h0 : 0 ≤ l) (h1 : l ≤ 1048576) : ∃ r, laws_szTermS x l = some r ∧ (r < 0 ∨ (0 ≤ r ∧ r ≤ l ∧ (x.length ≤ 1048576 ∧ ∀ y0 ∈ x, Term.sm 1048576 y0))) := by
  obtain ⟨hm, hx⟩ := hx
  unfold maxLen at hm
  unfold laws_szTermS
  rw [w64_of (x := l - x.length) (by omega) (by omega)]
  by_cases c1 : l - (x.length : Int) < 0
  · rw [if_pos (by simpa using c1)]
    exact ⟨_, rfl, .inl (by omega)⟩
  · rw [if_neg (by simpa using c1)]
    have key := sz_loop x (fun y0 => Term.sm 1048576 y0) (l - x.length) (b := laws_szTermS_l1b x) ?_ ?_ (by omega)
    · obtain ⟨t, h2, h3⟩ := key
      unfold laws_szTermS_l1
      rw [h2]
      cases t with
      | ret r => exact ⟨r, rfl, .inl h3⟩
      | nxt r => exact ⟨r, rfl, .inr ⟨h3.1, by have := h3.2.1; omega, by omega, h3.2.2⟩⟩
    · intro q i hi hq0 hq1
      unfold laws_szTermS_l1b
      rw [if_pos (by simp; omega)]
      simp only [idx_nat hi, Option.bind_some]
      have hi2 : w64 ((i : Int) + 1) = ((i + 1 : Nat) : Int) := w64_nat (by omega)
      obtain ⟨r, e, hr⟩ := szTerm_ok x[i] (hx _ (List.getElem_mem hi)) q hq0 (by omega)
      rw [e]
      simp only [Option.bind_some]
      by_cases c : r < 0
      · rw [if_pos (by simpa using c)]
        exact .inr ⟨_, rfl, by omega⟩
      · rw [if_neg (by simpa using c), hi2]
        obtain ⟨g1, g2, g3⟩ := hr.resolve_left c
        exact .inl ⟨_, rfl, g1, g2, g3⟩
    · intro q
      unfold laws_szTermS_l1b
      rw [if_neg (by simp)]

theorem szTermSS_ok (x : (List (List Term))) (hx : x.length ≤ maxLen ∧ ∀ y1 ∈ x, y1.length ≤ maxLen ∧ ∀ y2 ∈ y1, Term.ok y2) (l : Int) (h0 : 0 ≤ l) (h1 : l ≤ 1048576) : ∃ r, laws_szTermSS x l = some r ∧ (r < 0 ∨ (0 ≤ r ∧ r ≤ l ∧ (x.length ≤ 1048576 ∧ ∀ y0 ∈ x, y0.length ≤ 1048576 ∧ ∀ y1 ∈ y0, Term.sm 1048576 y1))) := by
  obtain ⟨hm, hx⟩ := hx
  unfold maxLen at hm
  unfold laws_szTermSS
  rw [w64_of (x := l - x.length) (by omega) (by omega)]
  by_cases c1 : l - (x.length : Int) < 0
  · rw [if_pos (by simpa using c1)]
    exact ⟨_, rfl, .inl (by omega)⟩
  · rw [if_neg (by simpa using c1)]
    have key := sz_loop x (fun y0 => y0.length ≤ 1048576 ∧ ∀ y1 ∈ y0, Term.sm 1048576 y1) (l - x.length) (b := laws_szTermSS_l1b x) ?_ ?_ (by omega)
    · obtain ⟨t, h2, h3⟩ := key
      unfold laws_szTermSS_l1
      rw [h2]
      cases t with
      | ret r => exact ⟨r, rfl, .inl h3⟩
      | nxt r => exact ⟨r, rfl, .inr ⟨h3.1, by have := h3.2.1; omega, by omega, h3.2.2⟩⟩
    · intro q i hi hq0 hq1
      unfold laws_szTermSS_l1b
      rw [if_pos (by simp; omega)]
      simp only [idx_nat hi, Option.bind_some]
      have hi2 : w64 ((i : Int) + 1) = ((i + 1 : Nat) : Int) := w64_nat (by omega)
      obtain ⟨r, e, hr⟩ := szTermS_ok x[i] (hx _ (List.getElem_mem hi)) q hq0 (by omega)
      rw [e]
      simp only [Option.bind_some]
      by_cases c : r < 0
      · rw [if_pos (by simpa using c)]
        exact .inr ⟨_, rfl, by omega⟩
      · rw [if_neg (by simpa using c), hi2]
        obtain ⟨g1, g2, g3⟩ := hr.resolve_left c
        exact .inl ⟨_, rfl, g1, g2, g3⟩
    · intro q
      unfold laws_szTermSS_l1b
      rw [if_neg (by simp)]

theorem szPack_ok (x : Pack) (hx : Pack.ok x) (l : Int) (h0 : 0 ≤ l) (h1 : l ≤ 1048576) : ∃ r, laws_szPack x l = some r ∧ (r < 0 ∨ (0 ≤ r ∧ r ≤ l ∧ (Pack.sm 1048576 x))) := by
  obtain ⟨k0, k1, k2, k3, k4, k5⟩ := hx
  unfold maxLen at *
  unfold laws_szPack
  rw [w64_of (x := l - x.Name.size) (by omega) (by omega)]
  by_cases c0 : l - (x.Name.size : Int) < 0
  · rw [if_pos (by simpa using c0)]
    exact ⟨_, rfl, .inl (by omega)⟩
  rw [if_neg (by simpa using c0)]
  obtain ⟨r3, e3, g3⟩ := szStringS_ok x.Provides k3 (l - x.Name.size) (by omega) (by omega)
  rw [e3]
  simp only [Option.bind_some]
  by_cases c3 : r3 < 0
  · rw [if_pos (by simpa using c3)]
    exact ⟨_, rfl, .inl (by omega)⟩
  rw [if_neg (by simpa using c3)]
  obtain ⟨p3, q3, z3⟩ := g3.resolve_left c3
  obtain ⟨r4, e4, g4⟩ := szTermSS_ok x.Needs k4 r3 (by omega) (by omega)
  rw [e4]
  simp only [Option.bind_some]
  by_cases c4 : r4 < 0
  · rw [if_pos (by simpa using c4)]
    exact ⟨_, rfl, .inl (by omega)⟩
  rw [if_neg (by simpa using c4)]
  obtain ⟨p4, q4, z4⟩ := g4.resolve_left c4
  obtain ⟨r5, e5, g5⟩ := szTermS_ok x.Bars k5 r4 (by omega) (by omega)
  rw [e5]
  simp only [Option.bind_some]
  by_cases c5 : r5 < 0
  · rw [if_pos (by simpa using c5)]
    exact ⟨_, rfl, .inl (by omega)⟩
  rw [if_neg (by simpa using c5)]
  obtain ⟨p5, q5, z5⟩ := g5.resolve_left c5
  exact ⟨_, rfl, .inr ⟨by omega, by omega, by omega, ⟨trivial, trivial, trivial⟩, trivial, z3, z4, z5⟩⟩

theorem szPackS_ok (x : (List Pack)) (hx : x.length ≤ maxLen ∧ ∀ y1 ∈ x, Pack.ok y1) (l : Int) (h0 : 0 ≤ l) (h1 : l ≤ 1048576) : ∃ r, laws_szPackS x l = some r ∧ (r < 0 ∨ (0 ≤ r ∧ r ≤ l ∧ (x.length ≤ 1048576 ∧ ∀ y0 ∈ x, Pack.sm 1048576 y0))) := by
  obtain ⟨hm, hx⟩ := hx
  unfold maxLen at hm
  unfold laws_szPackS
  rw [w64_of (x := l - x.length) (by omega) (by omega)]
  by_cases c1 : l - (x.length : Int) < 0
  · rw [if_pos (by simpa using c1)]
    exact ⟨_, rfl, .inl (by omega)⟩
  · rw [if_neg (by simpa using c1)]
    have key := sz_loop x (fun y0 => Pack.sm 1048576 y0) (l - x.length) (b := laws_szPackS_l1b x) ?_ ?_ (by omega)
    · obtain ⟨t, h2, h3⟩ := key
      unfold laws_szPackS_l1
      rw [h2]
      cases t with
      | ret r => exact ⟨r, rfl, .inl h3⟩
      | nxt r => exact ⟨r, rfl, .inr ⟨h3.1, by have := h3.2.1; omega, by omega, h3.2.2⟩⟩
    · intro q i hi hq0 hq1
      unfold laws_szPackS_l1b
      rw [if_pos (by simp; omega)]
      simp only [idx_nat hi, Option.bind_some]
      have hi2 : w64 ((i : Int) + 1) = ((i + 1 : Nat) : Int) := w64_nat (by omega)
      obtain ⟨r, e, hr⟩ := szPack_ok x[i] (hx _ (List.getElem_mem hi)) q hq0 (by omega)
      rw [e]
      simp only [Option.bind_some]
      by_cases c : r < 0
      · rw [if_pos (by simpa using c)]
        exact .inr ⟨_, rfl, by omega⟩
      · rw [if_neg (by simpa using c), hi2]
        obtain ⟨g1, g2, g3⟩ := hr.resolve_left c
        exact .inl ⟨_, rfl, g1, g2, g3⟩
    · intro q
      unfold laws_szPackS_l1b
      rw [if_neg (by simp)]

theorem toByteS_eq (x : (List Int)) (hx : x.length ≤ 1049600 ∧ ∀ y0 ∈ x, True) : laws_toByteS x = some x := by
  have hl := hx.1
  unfold laws_toByteS
  have hm : ∀ z : Int, mk 1 (x.length : Int) z = some (List.replicate x.length z) := fun z => by
    unfold mk; rw [if_pos ⟨by omega, by simp; omega, by omega⟩]; simp
  rw [hm]
  simp only [Option.bind_some, laws_toByteS_l1]
  rw [to_loop x ?_ ?_ _ (by simp)]
  · rfl
  · intro ys i hi hl2
    unfold laws_toByteS_l1b
    rw [if_pos (by simp; omega)]
    have hi2 : w64 ((i : Int) + 1) = ((i + 1 : Nat) : Int) := w64_nat (by omega)
    simp only [idx_nat hi, idx_nat (show i < ys.length by omega), Option.bind_some, Int.toNat_natCast, hi2]
  · intro ys _
    unfold laws_toByteS_l1b
    rw [if_neg (by simp)]

theorem toFile_eq (x : File) (hx : File.sm 1049600 x) : laws_toFile x = some x := by
  obtain ⟨h0, h1⟩ := hx
  unfold laws_toFile
  simp only [toByteS_eq x.Data h1, Option.bind_some]

theorem toFileS_eq (x : (List File)) (hx : x.length ≤ 1049600 ∧ ∀ y0 ∈ x, File.sm 1049600 y0) : laws_toFileS x = some x := by
  have hl := hx.1
  unfold laws_toFileS
  have hm : ∀ z : File, mk 40 (x.length : Int) z = some (List.replicate x.length z) := fun z => by
    unfold mk; rw [if_pos ⟨by omega, by simp; omega, by omega⟩]; simp
  rw [hm]
  simp only [Option.bind_some, laws_toFileS_l1]
  rw [to_loop x ?_ ?_ _ (by simp)]
  · rfl
  · intro ys i hi hl2
    unfold laws_toFileS_l1b
    rw [if_pos (by simp; omega)]
    have hi2 : w64 ((i : Int) + 1) = ((i + 1 : Nat) : Int) := w64_nat (by omega)
    simp only [idx_nat hi, idx_nat (show i < ys.length by omega), Option.bind_some, Int.toNat_natCast, hi2, toFile_eq x[i] (hx.2 _ (List.getElem_mem hi))]
  · intro ys _
    unfold laws_toFileS_l1b
    rw [if_neg (by simp)]

theorem toDisk_eq (x : Disk) (hx : Disk.sm 1049600 x) : laws_toDisk x = some x := by
  obtain ⟨h0, h1, h2, h3, h4⟩ := hx
  unfold laws_toDisk
  simp only [toFileS_eq x.Files h0, Option.bind_some]

theorem toVersion_eq (x : Version) (hx : Version.sm 1049600 x) : laws_toVersion x = some x := by
  obtain ⟨h0, h1, h2⟩ := hx
  unfold laws_toVersion
  rfl

theorem toStringS_eq (x : (List ByteArray)) (hx : x.length ≤ 1049600 ∧ ∀ y0 ∈ x, y0.size ≤ 1049600) : laws_toStringS x = some x := by
  have hl := hx.1
  unfold laws_toStringS
  have hm : ∀ z : ByteArray, mk 16 (x.length : Int) z = some (List.replicate x.length z) := fun z => by
    unfold mk; rw [if_pos ⟨by omega, by simp; omega, by omega⟩]; simp
  rw [hm]
  simp only [Option.bind_some, laws_toStringS_l1]
  rw [to_loop x ?_ ?_ _ (by simp)]
  · rfl
  · intro ys i hi hl2
    unfold laws_toStringS_l1b
    rw [if_pos (by simp; omega)]
    have hi2 : w64 ((i : Int) + 1) = ((i + 1 : Nat) : Int) := w64_nat (by omega)
    simp only [idx_nat hi, idx_nat (show i < ys.length by omega), Option.bind_some, Int.toNat_natCast, hi2]
  · intro ys _
    unfold laws_toStringS_l1b
    rw [if_neg (by simp)]

theorem toTerm_eq (x : Term) (hx : Term.sm 1049600 x) : laws_toTerm x = some x := by
  obtain ⟨h0, h1, h2⟩ := hx
  unfold laws_toTerm
  simp only [toVersion_eq x.Low h1, toVersion_eq x.High h2, Option.bind_some]

theorem toTermS_eq (x : (List Term)) (hx : x.length ≤ 1049600 ∧ ∀ y0 ∈ x, Term.sm 1049600 y0) : laws_toTermS x = some x := by
  have hl := hx.1
  unfold laws_toTermS
  have hm : ∀ z : Term, mk 64 (x.length : Int) z = some (List.replicate x.length z) := fun z => by
    unfold mk; rw [if_pos ⟨by omega, by simp; omega, by omega⟩]; simp
  rw [hm]
  simp only [Option.bind_some, laws_toTermS_l1]
  rw [to_loop x ?_ ?_ _ (by simp)]
  · rfl
  · intro ys i hi hl2
    unfold laws_toTermS_l1b
    rw [if_pos (by simp; omega)]
    have hi2 : w64 ((i : Int) + 1) = ((i + 1 : Nat) : Int) := w64_nat (by omega)
    simp only [idx_nat hi, idx_nat (show i < ys.length by omega), Option.bind_some, Int.toNat_natCast, hi2, toTerm_eq x[i] (hx.2 _ (List.getElem_mem hi))]
  · intro ys _
    unfold laws_toTermS_l1b
    rw [if_neg (by simp)]

theorem toTermSS_eq (x : (List (List Term))) (hx : x.length ≤ 1049600 ∧ ∀ y0 ∈ x, y0.length ≤ 1049600 ∧ ∀ y1 ∈ y0, Term.sm 1049600 y1) : laws_toTermSS x = some x := by
  have hl := hx.1
  unfold laws_toTermSS
  have hm : ∀ z : (List Term), mk 24 (x.length : Int) z = some (List.replicate x.length z) := fun z => by
    unfold mk; rw [if_pos ⟨by omega, by simp; omega, by omega⟩]; simp
  rw [hm]
  simp only [Option.bind_some, laws_toTermSS_l1]
  rw [to_loop x ?_ ?_ _ (by simp)]
  · rfl
  · intro ys i hi hl2
    unfold laws_toTermSS_l1b
    rw [if_pos (by simp; omega)]
    have hi2 : w64 ((i : Int) + 1) = ((i + 1 : Nat) : Int) := w64_nat (by omega)
    simp only [idx_nat hi, idx_nat (show i < ys.length by omega), Option.bind_some, Int.toNat_natCast, hi2, toTermS_eq x[i] (hx.2 _ (List.getElem_mem hi))]
  · intro ys _
    unfold laws_toTermSS_l1b
    rw [if_neg (by simp)]

theorem toPack_eq (x : Pack) (hx : Pack.sm 1049600 x) : laws_toPack x = some x := by
  obtain ⟨h0, h1, h2, h3, h4, h5⟩ := hx
  unfold laws_toPack
  simp only [toVersion_eq x.Version h1, toStringS_eq x.Provides h3, toTermSS_eq x.Needs h4, toTermS_eq x.Bars h5, Option.bind_some]

theorem toPackS_eq (x : (List Pack)) (hx : x.length ≤ 1049600 ∧ ∀ y0 ∈ x, Pack.sm 1049600 y0) : laws_toPackS x = some x := by
  have hl := hx.1
  unfold laws_toPackS
  have hm : ∀ z : Pack, mk 120 (x.length : Int) z = some (List.replicate x.length z) := fun z => by
    unfold mk; rw [if_pos ⟨by omega, by simp; omega, by omega⟩]; simp
  rw [hm]
  simp only [Option.bind_some, laws_toPackS_l1]
  rw [to_loop x ?_ ?_ _ (by simp)]
  · rfl
  · intro ys i hi hl2
    unfold laws_toPackS_l1b
    rw [if_pos (by simp; omega)]
    have hi2 : w64 ((i : Int) + 1) = ((i + 1 : Nat) : Int) := w64_nat (by omega)
    simp only [idx_nat hi, idx_nat (show i < ys.length by omega), Option.bind_some, Int.toNat_natCast, hi2, toPack_eq x[i] (hx.2 _ (List.getElem_mem hi))]
  · intro ys _
    unfold laws_toPackS_l1b
    rw [if_neg (by simp)]

theorem eqByteS_self (x : (List Int)) (hx : x.length ≤ 1049600 ∧ ∀ y0 ∈ x, True) : laws_eqByteS x x = some true := by
  have hl := hx.1
  unfold laws_eqByteS
  rw [if_neg (by simp)]
  unfold laws_eqByteS_l1
  rw [eq_loop x.length ?_ ?_]
  · rfl
  · intro i hi
    unfold laws_eqByteS_l1b
    rw [if_pos (by simp; omega)]
    have hi2 : w64 ((i : Int) + 1) = ((i + 1 : Nat) : Int) := w64_nat (by omega)
    simp [idx_nat hi, hi2]
  · unfold laws_eqByteS_l1b
    rw [if_neg (by simp)]

theorem eqFile_self (x : File) (hx : File.sm 1049600 x) : laws_eqFile x x = some true := by
  obtain ⟨h0, h1⟩ := hx
  unfold laws_eqFile
  simp [eqByteS_self x.Data h1]

theorem eqFileS_self (x : (List File)) (hx : x.length ≤ 1049600 ∧ ∀ y0 ∈ x, File.sm 1049600 y0) : laws_eqFileS x x = some true := by
  have hl := hx.1
  unfold laws_eqFileS
  rw [if_neg (by simp)]
  unfold laws_eqFileS_l1
  rw [eq_loop x.length ?_ ?_]
  · rfl
  · intro i hi
    unfold laws_eqFileS_l1b
    rw [if_pos (by simp; omega)]
    have hi2 : w64 ((i : Int) + 1) = ((i + 1 : Nat) : Int) := w64_nat (by omega)
    simp [idx_nat hi, hi2, eqFile_self x[i] (hx.2 _ (List.getElem_mem hi))]
  · unfold laws_eqFileS_l1b
    rw [if_neg (by simp)]

theorem eqDisk_self (x : Disk) (hx : Disk.sm 1049600 x) : laws_eqDisk x x = some true := by
  obtain ⟨h0, h1, h2, h3, h4⟩ := hx
  unfold laws_eqDisk
  simp [eqFileS_self x.Files h0]

theorem eqInt64S_self (x : (List Int)) (hx : x.length ≤ 1049600 ∧ ∀ y0 ∈ x, True) : laws_eqInt64S x x = some true := by
  have hl := hx.1
  unfold laws_eqInt64S
  rw [if_neg (by simp)]
  unfold laws_eqInt64S_l1
  rw [eq_loop x.length ?_ ?_]
  · rfl
  · intro i hi
    unfold laws_eqInt64S_l1b
    rw [if_pos (by simp; omega)]
    have hi2 : w64 ((i : Int) + 1) = ((i + 1 : Nat) : Int) := w64_nat (by omega)
    simp [idx_nat hi, hi2]
  · unfold laws_eqInt64S_l1b
    rw [if_neg (by simp)]

theorem eqVersion_self (x : Version) (hx : Version.sm 1049600 x) : laws_eqVersion x x = some true := by
  obtain ⟨h0, h1, h2⟩ := hx
  unfold laws_eqVersion
  simp

theorem eqStringS_self (x : (List ByteArray)) (hx : x.length ≤ 1049600 ∧ ∀ y0 ∈ x, y0.size ≤ 1049600) : laws_eqStringS x x = some true := by
  have hl := hx.1
  unfold laws_eqStringS
  rw [if_neg (by simp)]
  unfold laws_eqStringS_l1
  rw [eq_loop x.length ?_ ?_]
  · rfl
  · intro i hi
    unfold laws_eqStringS_l1b
    rw [if_pos (by simp; omega)]
    have hi2 : w64 ((i : Int) + 1) = ((i + 1 : Nat) : Int) := w64_nat (by omega)
    simp [idx_nat hi, hi2]
  · unfold laws_eqStringS_l1b
    rw [if_neg (by simp)]

theorem eqTerm_self (x : Term) (hx : Term.sm 1049600 x) : laws_eqTerm x x = some true := by
  obtain ⟨h0, h1, h2⟩ := hx
  unfold laws_eqTerm
  simp [eqVersion_self x.Low h1, eqVersion_self x.High h2]

theorem eqTermS_self (x : (List Term)) (hx : x.length ≤ 1049600 ∧ ∀ y0 ∈ x, Term.sm 1049600 y0) : laws_eqTermS x x = some true := by
  have hl := hx.1
  unfold laws_eqTermS
  rw [if_neg (by simp)]
  unfold laws_eqTermS_l1
  rw [eq_loop x.length ?_ ?_]
  · rfl
  · intro i hi
    unfold laws_eqTermS_l1b
    rw [if_pos (by simp; omega)]
    have hi2 : w64 ((i : Int) + 1) = ((i + 1 : Nat) : Int) := w64_nat (by omega)
    simp [idx_nat hi, hi2, eqTerm_self x[i] (hx.2 _ (List.getElem_mem hi))]
  · unfold laws_eqTermS_l1b
    rw [if_neg (by simp)]

theorem eqTermSS_self (x : (List (List Term))) (hx : x.length ≤ 1049600 ∧ ∀ y0 ∈ x, y0.length ≤ 1049600 ∧ ∀ y1 ∈ y0, Term.sm 1049600 y1) : laws_eqTermSS x x = some true := by
  have hl := hx.1
  unfold laws_eqTermSS
  rw [if_neg (by simp)]
  unfold laws_eqTermSS_l1
  rw [eq_loop x.length ?_ ?_]
  · rfl
  · intro i hi
    unfold laws_eqTermSS_l1b
    rw [if_pos (by simp; omega)]
    have hi2 : w64 ((i : Int) + 1) = ((i + 1 : Nat) : Int) := w64_nat (by omega)
    simp [idx_nat hi, hi2, eqTermS_self x[i] (hx.2 _ (List.getElem_mem hi))]
  · unfold laws_eqTermSS_l1b
    rw [if_neg (by simp)]

theorem eqPack_self (x : Pack) (hx : Pack.sm 1049600 x) : laws_eqPack x x = some true := by
  obtain ⟨h0, h1, h2, h3, h4, h5⟩ := hx
  unfold laws_eqPack
  simp [eqVersion_self x.Version h1, eqStringS_self x.Provides h3, eqTermSS_self x.Needs h4, eqTermS_self x.Bars h5]

theorem eqPackS_self (x : (List Pack)) (hx : x.length ≤ 1049600 ∧ ∀ y0 ∈ x, Pack.sm 1049600 y0) : laws_eqPackS x x = some true := by
  have hl := hx.1
  unfold laws_eqPackS
  rw [if_neg (by simp)]
  unfold laws_eqPackS_l1
  rw [eq_loop x.length ?_ ?_]
  · rfl
  · intro i hi
    unfold laws_eqPackS_l1b
    rw [if_pos (by simp; omega)]
    have hi2 : w64 ((i : Int) + 1) = ((i + 1 : Nat) : Int) := w64_nat (by omega)
    simp [idx_nat hi, hi2, eqPack_self x[i] (hx.2 _ (List.getElem_mem hi))]
  · unfold laws_eqPackS_l1b
    rw [if_neg (by simp)]

def SetResult.sm (B : Nat) (x : SetResult) : Prop := (True) ∧ (True) ∧ (x.Set.length ≤ B ∧ ∀ y0 ∈ x.Set, True)

theorem eqSetResult_self (x : SetResult) (hx : SetResult.sm 1049600 x) : laws_eqSetResult x x = some true := by
  obtain ⟨h0, h1, h2⟩ := hx
  unfold laws_eqSetResult
  simp [eqInt64S_self x.Set h2]

theorem b2s_size1 (a : Int) : (b2s [a]).size = 1 := rfl

theorem markText_some {k : Int} (h0 : 0 ≤ k) (h1 : k ≤ 9223372036854775807) : ∃ s, laws_markText k = some s := by
  have key : ∀ (n : Nat) (k : Int) (s : ByteArray), 0 ≤ k → k < 10 ^ n → k ≤ 9223372036854775807 → s.size + n ≤ 1000 → ∃ t, loop laws_markText_l1b (k, s) = some t ∧ t.size ≤ s.size + n := by
    intro n
    induction n with
    | zero =>
      intro k s h0 h1 _ _
      have : k = 0 := by simp at h1; omega
      subst this
      exact ⟨s, by rw [loop_eq]; rfl, by omega⟩
    | succ n ih =>
      intro k s h0 h1 h2 h3
      by_cases hk : k > 0
      · rw [loop_eq]
        unfold laws_markText_l1b
        simp only
        rw [if_pos (by simpa using hk)]
        have hc : ∀ a : Int, cat (b2s [a]) s = some (b2s [a] ++ s) := fun a => by
          unfold cat; rw [if_pos (by rw [b2s_size1]; omega)]
        rw [hc]
        simp only [Option.bind_some, Lp.elim]
        have hd : k.tdiv 10 = k / 10 := Int.tdiv_eq_ediv_of_nonneg h0
        rw [hd, w64_of (by omega) (by omega)]
        obtain ⟨t, g1, g2⟩ := ih (k / 10) (b2s [IntKind.u8.wrap (w64 (48 + k.tmod 10))] ++ s) (by omega) (by rw [Int.pow_succ] at h1; omega) (by omega) (by rw [ByteArray.size_append, b2s_size1]; omega)
        refine ⟨t, g1, ?_⟩
        rw [ByteArray.size_append, b2s_size1] at g2
        omega
      · have : k = 0 := by omega
        subst this
        exact ⟨s, by rw [loop_eq]; rfl, by omega⟩
  unfold laws_markText
  by_cases hk : k ≤ 0
  · rw [if_pos (by simpa using hk)]
    exact ⟨_, rfl⟩
  · rw [if_neg (by simpa using hk)]
    obtain ⟨t, g1, g2⟩ := key 19 k (bs []) h0 (by omega) h1 (by decide)
    unfold laws_markText_l1
    rw [g1]
    simp only [Option.bind_some]
    have e0 : (bs []).size = 0 := rfl
    have e1 : (bs [109]).size = 1 := rfl
    unfold cat
    rw [if_pos (by omega)]
    exact ⟨_, rfl⟩

noncomputable def mT (k : Int) : ByteArray := (laws_markText k).getD ByteArray.empty

theorem markText_eq {k : Int} (h0 : 0 ≤ k) (h1 : k ≤ 9223372036854775807) : laws_markText k = some (mT k) := by
  obtain ⟨s, hs⟩ := markText_some h0 h1
  unfold mT
  rw [hs]
  rfl

def mByte (_ : Int) (k : Int) : Int := IntKind.u8.wrap k

theorem markByteSr_eq (xs : List Int) (hx : xs.length ≤ 1049600 ∧ ∀ y0 ∈ xs, True) (k : Int) (h0 : 0 ≤ k) (h1 : k + cs c1 xs ≤ 9223372036854775807) : laws_markByteSr xs k = some (k + cs c1 xs, pm mByte c1 xs k) := by
  unfold laws_markByteSr laws_markByteSr_l1
  have key := mark_loop mByte c1 (fun y0 => True) c1_nonneg (b := laws_markByteSr_l1b) ?_ ?_ xs [] k hx.2 h0 h1 (by have := hx.1; simp; omega)
  · simp only [List.nil_append, List.length_nil, Int.natCast_zero] at key
    rw [key]
    rfl
  · intro l r x k hP h0 hk hl
    simp only [c1] at hk
    have w0 := w64_of (x := k + 1) (by omega) (by omega)
    have hi2 : w64 ((l.length : Int) + 1) = ((l.length + 1 : Nat) : Int) := w64_nat (by omega)
    unfold laws_markByteSr_l1b
    rw [if_pos (by simp; omega)]
    simp only [idx_append, set_app, Option.bind_some, Int.toNat_natCast, hi2, w0]
    rfl
  · intro l k
    unfold laws_markByteSr_l1b
    rw [if_neg (by simp)]

noncomputable def mFile (x : File) (k : Int) : File := ({ Path := mT (k), Data := pm mByte c1 x.Data (k + 1) } : File)

noncomputable def cFile (x : File) : Int := 1 + cs c1 x.Data

theorem cFile_nonneg (x : File) : 0 ≤ cFile x := by
  have n1 := cs_nonneg c1_nonneg x.Data
  unfold cFile
  omega

theorem markFileSr_eq (xs : List File) (hx : xs.length ≤ 1049600 ∧ ∀ y0 ∈ xs, File.sm 1049600 y0) (k : Int) (h0 : 0 ≤ k) (h1 : k + cs cFile xs ≤ 9223372036854775807) : laws_markFileSr xs k = some (k + cs cFile xs, pm mFile cFile xs k) := by
  unfold laws_markFileSr laws_markFileSr_l1
  have key := mark_loop mFile cFile (fun y0 => File.sm 1049600 y0) cFile_nonneg (b := laws_markFileSr_l1b) ?_ ?_ xs [] k hx.2 h0 h1 (by have := hx.1; simp; omega)
  · simp only [List.nil_append, List.length_nil, Int.natCast_zero] at key
    rw [key]
    rfl
  · intro l r x k hP h0 hk hl
    simp only [cFile] at hk
    have n1 := cs_nonneg c1_nonneg x.Data
    have t0 := markText_eq (k := k) (by omega) (by omega)
    have w0 := w64_of (x := k + 1) (by omega) (by omega)
    have t1 := markByteSr_eq x.Data (hP.2) (k + 1) (by omega) (by omega)
    have hi2 : w64 ((l.length : Int) + 1) = ((l.length + 1 : Nat) : Int) := w64_nat (by omega)
    unfold laws_markFileSr_l1b
    rw [if_pos (by simp; omega)]
    simp only [idx_append, set_app, Option.bind_some, Int.toNat_natCast, hi2, t0, w0, t1, same_of (pm_length _ _ _ _)]
    rw [show k + 1 + cs c1 x.Data = k + cFile x from by simp only [cFile]; omega]
    rfl
  · intro l k
    unfold laws_markFileSr_l1b
    rw [if_neg (by simp)]

theorem markDiskg_eq (x : Disk) (hP : Disk.sm 1049600 x) (k : Int) (h0 : 0 ≤ k) (h1 : k + cs cFile x.Files ≤ 9223372036854775807) : laws_markDiskg x k = some (k + cs cFile x.Files, pm mFile cFile x.Files (k)) := by
  have n0 := cs_nonneg cFile_nonneg x.Files
  have t0 := markFileSr_eq x.Files (hP.1) (k) (by omega) (by omega)
  unfold laws_markDiskg
  simp only [t0, Option.bind_some, same_of (pm_length _ _ _ _)]

def mInt64 (_ : Int) (k : Int) : Int := k

theorem markInt64Sr_eq (xs : List Int) (hx : xs.length ≤ 1049600 ∧ ∀ y0 ∈ xs, True) (k : Int) (h0 : 0 ≤ k) (h1 : k + cs c1 xs ≤ 9223372036854775807) : laws_markInt64Sr xs k = some (k + cs c1 xs, pm mInt64 c1 xs k) := by
  unfold laws_markInt64Sr laws_markInt64Sr_l1
  have key := mark_loop mInt64 c1 (fun y0 => True) c1_nonneg (b := laws_markInt64Sr_l1b) ?_ ?_ xs [] k hx.2 h0 h1 (by have := hx.1; simp; omega)
  · simp only [List.nil_append, List.length_nil, Int.natCast_zero] at key
    rw [key]
    rfl
  · intro l r x k hP h0 hk hl
    simp only [c1] at hk
    have w0 := w64_of (x := k + 1) (by omega) (by omega)
    have hi2 : w64 ((l.length : Int) + 1) = ((l.length + 1 : Nat) : Int) := w64_nat (by omega)
    unfold laws_markInt64Sr_l1b
    rw [if_pos (by simp; omega)]
    simp only [idx_append, set_app, Option.bind_some, Int.toNat_natCast, hi2, w0]
    rfl
  · intro l k
    unfold laws_markInt64Sr_l1b
    rw [if_neg (by simp)]

theorem heldInt64S_eq (xs : List Int) (hx : xs.length ≤ 1049600 ∧ ∀ y0 ∈ xs, True) (k : Int) (h0 : 0 ≤ k) (h1 : k + cs c1 xs ≤ 9223372036854775807) : laws_heldInt64S (pm mInt64 c1 xs k) k = some (k + cs c1 xs) := by
  unfold laws_heldInt64S laws_heldInt64S_l1
  have key := held_loop mInt64 c1 (fun y0 => True) c1_nonneg (b := laws_heldInt64S_l1b) ?_ ?_ xs [] k hx.2 h0 h1 (by have := hx.1; simp; omega)
  · simp only [List.nil_append, List.length_nil, Int.natCast_zero] at key
    rw [key]
    rfl
  · intro l r x k hP h0 hk hl
    simp only [c1] at hk
    have w0 := w64_of (x := k + 1) (by omega) (by omega)
    have hi2 : w64 ((l.length : Int) + 1) = ((l.length + 1 : Nat) : Int) := w64_nat (by omega)
    unfold laws_heldInt64S_l1b
    rw [if_pos (by simp; omega)]
    simp [idx_append, hi2, mInt64, w0]
    all_goals (first | rfl | omega | (simp only [c1]; omega))
  · intro l k
    unfold laws_heldInt64S_l1b
    rw [if_neg (by simp)]

noncomputable def mString (_ : ByteArray) (k : Int) : ByteArray := mT k

theorem markStringSr_eq (xs : List ByteArray) (hx : xs.length ≤ 1049600 ∧ ∀ y0 ∈ xs, y0.size ≤ 1049600) (k : Int) (h0 : 0 ≤ k) (h1 : k + cs c1 xs ≤ 9223372036854775807) : laws_markStringSr xs k = some (k + cs c1 xs, pm mString c1 xs k) := by
  unfold laws_markStringSr laws_markStringSr_l1
  have key := mark_loop mString c1 (fun y0 => y0.size ≤ 1049600) c1_nonneg (b := laws_markStringSr_l1b) ?_ ?_ xs [] k hx.2 h0 h1 (by have := hx.1; simp; omega)
  · simp only [List.nil_append, List.length_nil, Int.natCast_zero] at key
    rw [key]
    rfl
  · intro l r x k hP h0 hk hl
    simp only [c1] at hk
    have t0 := markText_eq (k := k) (by omega) (by omega)
    have w0 := w64_of (x := k + 1) (by omega) (by omega)
    have hi2 : w64 ((l.length : Int) + 1) = ((l.length + 1 : Nat) : Int) := w64_nat (by omega)
    unfold laws_markStringSr_l1b
    rw [if_pos (by simp; omega)]
    simp only [idx_append, set_app, Option.bind_some, Int.toNat_natCast, hi2, t0, w0]
    rfl
  · intro l k
    unfold laws_markStringSr_l1b
    rw [if_neg (by simp)]

noncomputable def mTerm (x : Term) (k : Int) : Term := ({ Name := mT (k), Low := ({ A := (k + 1), B := (k + 1 + 1), C := (k + 1 + 1 + 1) } : Version), High := ({ A := (k + 1 + 1 + 1 + 1), B := (k + 1 + 1 + 1 + 1 + 1), C := (k + 1 + 1 + 1 + 1 + 1 + 1) } : Version) } : Term)

noncomputable def cTerm (x : Term) : Int := 1 + 1 + 1 + 1 + 1 + 1 + 1

theorem cTerm_nonneg (x : Term) : 0 ≤ cTerm x := by
  unfold cTerm
  omega

theorem markTermSr_eq (xs : List Term) (hx : xs.length ≤ 1049600 ∧ ∀ y0 ∈ xs, Term.sm 1049600 y0) (k : Int) (h0 : 0 ≤ k) (h1 : k + cs cTerm xs ≤ 9223372036854775807) : laws_markTermSr xs k = some (k + cs cTerm xs, pm mTerm cTerm xs k) := by
  unfold laws_markTermSr laws_markTermSr_l1
  have key := mark_loop mTerm cTerm (fun y0 => Term.sm 1049600 y0) cTerm_nonneg (b := laws_markTermSr_l1b) ?_ ?_ xs [] k hx.2 h0 h1 (by have := hx.1; simp; omega)
  · simp only [List.nil_append, List.length_nil, Int.natCast_zero] at key
    rw [key]
    rfl
  · intro l r x k hP h0 hk hl
    simp only [cTerm] at hk
    have t0 := markText_eq (k := k) (by omega) (by omega)
    have w0 := w64_of (x := k + 1) (by omega) (by omega)
    have w1 := w64_of (x := k + 1 + 1) (by omega) (by omega)
    have w2 := w64_of (x := k + 1 + 1 + 1) (by omega) (by omega)
    have w3 := w64_of (x := k + 1 + 1 + 1 + 1) (by omega) (by omega)
    have w4 := w64_of (x := k + 1 + 1 + 1 + 1 + 1) (by omega) (by omega)
    have w5 := w64_of (x := k + 1 + 1 + 1 + 1 + 1 + 1) (by omega) (by omega)
    have w6 := w64_of (x := k + 1 + 1 + 1 + 1 + 1 + 1 + 1) (by omega) (by omega)
    have hi2 : w64 ((l.length : Int) + 1) = ((l.length + 1 : Nat) : Int) := w64_nat (by omega)
    unfold laws_markTermSr_l1b
    rw [if_pos (by simp; omega)]
    simp only [idx_append, set_app, Option.bind_some, Int.toNat_natCast, hi2, t0, w0, w1, w2, w3, w4, w5, w6]
    rw [show k + 1 + 1 + 1 + 1 + 1 + 1 + 1 = k + cTerm x from by simp only [cTerm]; omega]
    rfl
  · intro l k
    unfold laws_markTermSr_l1b
    rw [if_neg (by simp)]

noncomputable def mTermS (x : (List Term)) (k : Int) : (List Term) := pm mTerm cTerm x k

noncomputable def cTermS (x : (List Term)) : Int := cs cTerm x

theorem cTermS_nonneg (x : (List Term)) : 0 ≤ cTermS x := cs_nonneg cTerm_nonneg x

theorem markTermSSr_eq (xs : List (List Term)) (hx : xs.length ≤ 1049600 ∧ ∀ y0 ∈ xs, y0.length ≤ 1049600 ∧ ∀ y1 ∈ y0, Term.sm 1049600 y1) (k : Int) (h0 : 0 ≤ k) (h1 : k + cs cTermS xs ≤ 9223372036854775807) : laws_markTermSSr xs k = some (k + cs cTermS xs, pm mTermS cTermS xs k) := by
  unfold laws_markTermSSr laws_markTermSSr_l1
  have key := mark_loop mTermS cTermS (fun y0 => y0.length ≤ 1049600 ∧ ∀ y1 ∈ y0, Term.sm 1049600 y1) cTermS_nonneg (b := laws_markTermSSr_l1b) ?_ ?_ xs [] k hx.2 h0 h1 (by have := hx.1; simp; omega)
  · simp only [List.nil_append, List.length_nil, Int.natCast_zero] at key
    rw [key]
    rfl
  · intro l r x k hP h0 hk hl
    simp only [cTermS] at hk
    have n0 := cs_nonneg cTerm_nonneg x
    have t0 := markTermSr_eq x (hP) (k) (by omega) (by omega)
    have hi2 : w64 ((l.length : Int) + 1) = ((l.length + 1 : Nat) : Int) := w64_nat (by omega)
    unfold laws_markTermSSr_l1b
    rw [if_pos (by simp; omega)]
    simp only [idx_append, set_app, Option.bind_some, Int.toNat_natCast, hi2, t0, same_of (pm_length _ _ _ _)]
    rfl
  · intro l k
    unfold laws_markTermSSr_l1b
    rw [if_neg (by simp)]

noncomputable def mPack (x : Pack) (k : Int) : Pack := ({ Name := mT (k), Version := ({ A := (k + 1), B := (k + 1 + 1), C := (k + 1 + 1 + 1) } : Version), Size := (k + 1 + 1 + 1 + 1), Provides := pm mString c1 x.Provides (k + 1 + 1 + 1 + 1 + 1), Needs := pm mTermS cTermS x.Needs (k + 1 + 1 + 1 + 1 + 1 + cs c1 x.Provides), Bars := pm mTerm cTerm x.Bars (k + 1 + 1 + 1 + 1 + 1 + cs c1 x.Provides + cs cTermS x.Needs) } : Pack)

noncomputable def cPack (x : Pack) : Int := 1 + 1 + 1 + 1 + 1 + cs c1 x.Provides + cs cTermS x.Needs + cs cTerm x.Bars

theorem cPack_nonneg (x : Pack) : 0 ≤ cPack x := by
  have n5 := cs_nonneg c1_nonneg x.Provides
  have n6 := cs_nonneg cTermS_nonneg x.Needs
  have n7 := cs_nonneg cTerm_nonneg x.Bars
  unfold cPack
  omega

theorem markPackSr_eq (xs : List Pack) (hx : xs.length ≤ 1049600 ∧ ∀ y0 ∈ xs, Pack.sm 1049600 y0) (k : Int) (h0 : 0 ≤ k) (h1 : k + cs cPack xs ≤ 9223372036854775807) : laws_markPackSr xs k = some (k + cs cPack xs, pm mPack cPack xs k) := by
  unfold laws_markPackSr laws_markPackSr_l1
  have key := mark_loop mPack cPack (fun y0 => Pack.sm 1049600 y0) cPack_nonneg (b := laws_markPackSr_l1b) ?_ ?_ xs [] k hx.2 h0 h1 (by have := hx.1; simp; omega)
  · simp only [List.nil_append, List.length_nil, Int.natCast_zero] at key
    rw [key]
    rfl
  · intro l r x k hP h0 hk hl
    simp only [cPack] at hk
    have n5 := cs_nonneg c1_nonneg x.Provides
    have n6 := cs_nonneg cTermS_nonneg x.Needs
    have n7 := cs_nonneg cTerm_nonneg x.Bars
    have t0 := markText_eq (k := k) (by omega) (by omega)
    have w0 := w64_of (x := k + 1) (by omega) (by omega)
    have w1 := w64_of (x := k + 1 + 1) (by omega) (by omega)
    have w2 := w64_of (x := k + 1 + 1 + 1) (by omega) (by omega)
    have w3 := w64_of (x := k + 1 + 1 + 1 + 1) (by omega) (by omega)
    have w4 := w64_of (x := k + 1 + 1 + 1 + 1 + 1) (by omega) (by omega)
    have t5 := markStringSr_eq x.Provides (hP.2.2.2.1) (k + 1 + 1 + 1 + 1 + 1) (by omega) (by omega)
    have t6 := markTermSSr_eq x.Needs (hP.2.2.2.2.1) (k + 1 + 1 + 1 + 1 + 1 + cs c1 x.Provides) (by omega) (by omega)
    have t7 := markTermSr_eq x.Bars (hP.2.2.2.2.2) (k + 1 + 1 + 1 + 1 + 1 + cs c1 x.Provides + cs cTermS x.Needs) (by omega) (by omega)
    have hi2 : w64 ((l.length : Int) + 1) = ((l.length + 1 : Nat) : Int) := w64_nat (by omega)
    unfold laws_markPackSr_l1b
    rw [if_pos (by simp; omega)]
    simp only [idx_append, set_app, Option.bind_some, Int.toNat_natCast, hi2, t0, w0, w1, w2, w3, w4, t5, t6, t7, same_of (pm_length _ _ _ _)]
    rw [show k + 1 + 1 + 1 + 1 + 1 + cs c1 x.Provides + cs cTermS x.Needs + cs cTerm x.Bars = k + cPack x from by simp only [cPack]; omega]
    rfl
  · intro l k
    unfold laws_markPackSr_l1b
    rw [if_neg (by simp)]

theorem markSetResultg_eq (x : SetResult) (hP : SetResult.sm 1049600 x) (k : Int) (h0 : 0 ≤ k) (h1 : k + cs c1 x.Set ≤ 9223372036854775807) : laws_markSetResultg x k = some (k + cs c1 x.Set, pm mInt64 c1 x.Set (k)) := by
  have n0 := cs_nonneg c1_nonneg x.Set
  have t0 := markInt64Sr_eq x.Set (hP.2.2) (k) (by omega) (by omega)
  unfold laws_markSetResultg
  simp only [t0, Option.bind_some, same_of (pm_length _ _ _ _)]

theorem heldSetResult_eq (x : SetResult) (hP : SetResult.sm 1049600 x) (k : Int) (h0 : 0 ≤ k) (h1 : k + cs c1 x.Set ≤ 9223372036854775807) : laws_heldSetResult ({ Code := x.Code, At := x.At, Set := pm mInt64 c1 x.Set (k) } : SetResult) k = some (k + cs c1 x.Set) := by
  have n0 := cs_nonneg c1_nonneg x.Set
  have t0 := heldInt64S_eq x.Set (hP.2.2) (k) (by omega) (by omega)
  unfold laws_heldSetResult
  simp [t0]
  all_goals omega

theorem Version.sm_mono {x : Version} (h : Version.sm 1048576 x) : Version.sm 1049600 x := ⟨trivial, trivial, trivial⟩

theorem Term.sm_mono {x : Term} (h : Term.sm 1048576 x) : Term.sm 1049600 x := ⟨(Nat.le_trans h.1 (by decide)), (Version.sm_mono h.2.1), (Version.sm_mono h.2.2)⟩

theorem Pack.sm_mono {x : Pack} (h : Pack.sm 1048576 x) : Pack.sm 1049600 x := ⟨(Nat.le_trans h.1 (by decide)), (Version.sm_mono h.2.1), trivial, ⟨Nat.le_trans h.2.2.2.1.1 (by decide), fun y0 z0 => (Nat.le_trans (h.2.2.2.1.2 y0 z0) (by decide))⟩, ⟨Nat.le_trans h.2.2.2.2.1.1 (by decide), fun y0 z0 => ⟨Nat.le_trans (h.2.2.2.2.1.2 y0 z0).1 (by decide), fun y1 z1 => (Term.sm_mono ((h.2.2.2.2.1.2 y0 z0).2 y1 z1))⟩⟩, ⟨Nat.le_trans h.2.2.2.2.2.1 (by decide), fun y0 z0 => (Term.sm_mono (h.2.2.2.2.2.2 y0 z0))⟩⟩

theorem File.sm_mono {x : File} (h : File.sm 1048576 x) : File.sm 1049600 x := ⟨(Nat.le_trans h.1 (by decide)), ⟨Nat.le_trans h.2.1 (by decide), fun y0 z0 => trivial⟩⟩

theorem Disk.sm_mono {x : Disk} (h : Disk.sm 1048576 x) : Disk.sm 1049600 x := ⟨⟨Nat.le_trans h.1.1 (by decide), fun y0 z0 => (File.sm_mono (h.1.2 y0 z0))⟩, trivial, trivial, trivial, trivial⟩

theorem csStringS_le (x : (List ByteArray)) (hx : x.length ≤ 1049600 ∧ ∀ y0 ∈ x, y0.size ≤ 1049600) : cs c1 x ≤ 1049600 := by
  have := cs_le (c := c1) (C := 1) (N := 1049600) (by decide) x (fun a _ => by unfold c1; decide) hx.1
  omega

theorem csTermS_le (x : (List Term)) (hx : x.length ≤ 1049600 ∧ ∀ y0 ∈ x, Term.sm 1049600 y0) : cs cTerm x ≤ 7347200 := by
  have := cs_le (c := cTerm) (C := 7) (N := 1049600) (by decide) x (fun a ha => by have hP := hx.2 a ha; unfold cTerm; omega) hx.1
  omega

theorem csTermSS_le (x : (List (List Term))) (hx : x.length ≤ 1049600 ∧ ∀ y0 ∈ x, y0.length ≤ 1049600 ∧ ∀ y1 ∈ y0, Term.sm 1049600 y1) : cs cTermS x ≤ 7711621120000 := by
  have := cs_le (c := cTermS) (C := 7347200) (N := 1049600) (by decide) x (fun a ha => csTermS_le a (hx.2 a ha)) hx.1
  omega

theorem csPackS_le (x : (List Pack)) (hx : x.length ≤ 1049600 ∧ ∀ y0 ∈ x, Pack.sm 1049600 y0) : cs cPack x ≤ 8094126340838528000 := by
  have := cs_le (c := cPack) (C := 7711629516805) (N := 1049600) (by decide) x (fun a ha => by have hP := hx.2 a ha; have q5 := csStringS_le a.Provides (hP.2.2.2.1); have q6 := csTermSS_le a.Needs (hP.2.2.2.2.1); have q7 := csTermS_le a.Bars (hP.2.2.2.2.2); unfold cPack; omega) hx.1
  omega

theorem csByteS_le (x : (List Int)) (hx : x.length ≤ 1049600 ∧ ∀ y0 ∈ x, True) : cs c1 x ≤ 1049600 := by
  have := cs_le (c := c1) (C := 1) (N := 1049600) (by decide) x (fun a _ => by unfold c1; decide) hx.1
  omega

theorem csFileS_le (x : (List File)) (hx : x.length ≤ 1049600 ∧ ∀ y0 ∈ x, File.sm 1049600 y0) : cs cFile x ≤ 1101661209600 := by
  have := cs_le (c := cFile) (C := 1049601) (N := 1049600) (by decide) x (fun a ha => by have hP := hx.2 a ha; have q1 := csByteS_le a.Data (hP.2); unfold cFile; omega) hx.1
  omega

theorem csInt64S_le (x : (List Int)) (hx : x.length ≤ 1049600 ∧ ∀ y0 ∈ x, True) : cs c1 x ≤ 1049600 := by
  have := cs_le (c := c1) (C := 1) (N := 1049600) (by decide) x (fun a _ => by unfold c1; decide) hx.1
  omega

theorem FnExactSetOfGen_true (a1 : (List Pack)) (a2 : Disk) (a3 : Int) (k0 : a1.length ≤ maxLen ∧ ∀ y1 ∈ a1, Pack.ok y1) (k1 : Disk.ok a2) (k2 : IntKind.i64.min ≤ a3 ∧ a3 ≤ IntKind.i64.max) (both : (a1.length ≤ 1048576 ∧ ∀ y0 ∈ a1, Pack.sm 1048576 y0) → (Disk.sm 1048576 a2) → (True) → ∃ r, spec_SetOfGen a1 a2 a3 = some r ∧ impl_SetOfGen a1 a2 a3 = some r ∧ (SetResult.sm 1049600 r)) : laws_FnExactSetOfGen a1 a2 a3 = some true := by
  unfold laws_FnExactSetOfGen
  obtain ⟨r1, e1, g1⟩ := szPackS_ok a1 k0 1048576 (by omega) (by omega)
  rw [e1]
  simp only [Option.bind_some]
  by_cases d1 : r1 < 0
  · rw [if_pos (by simpa using d1)]
  rw [if_neg (by simpa using d1)]
  obtain ⟨p1, q1, s_a1⟩ := g1.resolve_left d1
  obtain ⟨r2, e2, g2⟩ := szDisk_ok a2 k1 r1 (by omega) (by omega)
  rw [e2]
  simp only [Option.bind_some]
  by_cases d2 : r2 < 0
  · rw [if_pos (by simpa using d2)]
  rw [if_neg (by simpa using d2)]
  obtain ⟨p2, q2, s_a2⟩ := g2.resolve_left d2
  have s_a3 : True := trivial
  obtain ⟨r, e1, e2, hr⟩ := both s_a1 s_a2 s_a3
  have m_a1 : a1.length ≤ 1049600 ∧ ∀ y0 ∈ a1, Pack.sm 1049600 y0 := ⟨Nat.le_trans s_a1.1 (by decide), fun y0 z0 => (Pack.sm_mono (s_a1.2 y0 z0))⟩
  have m_a2 : Disk.sm 1049600 a2 := (Disk.sm_mono s_a2)
  have m_a3 : True := trivial
  have n1 := cs_nonneg cPack_nonneg a1
  have b1 := csPackS_le a1 (m_a1)
  have n3 := cs_nonneg cFile_nonneg a2.Files
  have b3 := csFileS_le a2.Files (m_a2.1)
  have n5 := cs_nonneg c1_nonneg r.Set
  have b5 := csInt64S_le r.Set (hr.2.2)
  have t2 := markPackSr_eq a1 m_a1 (1) (by omega) (by omega)
  have t4 := markDiskg_eq a2 m_a2 (1 + cs cPack a1) (by omega) (by omega)
  have z1 : ¬ (1 + cs cPack a1 + cs cFile a2.Files < 0) := by omega
  have t6 := markSetResultg_eq r hr 1 (by omega) (by omega)
  have u6 := heldSetResult_eq r hr 1 (by omega) (by omega)
  have z2 : ¬ (1 + cs c1 r.Set < 0) := by omega
  simp [e1, e2, toPackS_eq a1 m_a1, eqPackS_self a1 m_a1, toDisk_eq a2 m_a2, eqDisk_self a2 m_a2, eqSetResult_self r hr, t2, t4, z1, t6, u6, z2, same_of (pm_length _ _ _ _)]

/-! ### Texts as lists of bytes -/
def bl (s : ByteArray) : List Int := s.toList.map (fun b => (b.toNat : Int))

theorem bl_length (s : ByteArray) : (bl s).length = s.size := by
  unfold bl
  rw [List.length_map, ByteArray.toList_eq]
  rfl

theorem bidx_nat {s : ByteArray} {i : Nat} (h : i < (bl s).length) : bidx s (i : Int) = some (bl s)[i] := by
  unfold bidx
  rw [if_pos (by omega)]
  have hs : i < s.size := by rw [bl_length] at h; exact h
  have e : s[(i : Int).toNat]? = some s[i] := by simp [hs]
  rw [e]
  simp only [Option.map_some, bl, List.getElem_map]
  congr 2
  simp only [ByteArray.toList_eq]
  rfl

theorem bl_range {s : ByteArray} : ∀ c ∈ bl s, 0 ≤ c ∧ c ≤ 255 := by
  intro c hc
  unfold bl at hc
  obtain ⟨b, _, rfl⟩ := List.mem_map.1 hc
  have := b.toNat_lt
  omega

theorem less_irrefl : ∀ (a : List UInt8), Op.bytesLess a a = false
  | [] => rfl
  | x :: a => by simp [Op.bytesLess, less_irrefl a]

theorem less_trans : ∀ {a b c : List UInt8}, Op.bytesLess a b = true → Op.bytesLess b c = true → Op.bytesLess a c = true
  | _, [], _, h, _ => by simp [Op.bytesLess] at h
  | _, _ :: _, [], _, h => by simp [Op.bytesLess] at h
  | [], _ :: _, _ :: _, _, _ => by simp [Op.bytesLess]
  | x :: a, y :: b, z :: c, h1, h2 => by
    simp only [Op.bytesLess, Bool.or_eq_true, decide_eq_true_eq, Bool.and_eq_true, beq_iff_eq] at h1 h2 ⊢
    rcases h1 with h1 | ⟨rfl, h1⟩
    · rcases h2 with h2 | ⟨rfl, h2⟩
      · exact .inl (UInt8.lt_trans h1 h2)
      · exact .inl h1
    · rcases h2 with h2 | ⟨rfl, h2⟩
      · exact .inl h2
      · exact .inr ⟨rfl, less_trans h1 h2⟩

theorem less_tri : ∀ (a b : List UInt8), Op.bytesLess a b = false → a ≠ b → Op.bytesLess b a = true
  | [], [], _, h => absurd rfl h
  | [], _ :: _, h, _ => by simp [Op.bytesLess] at h
  | _ :: _, [], _, _ => by simp [Op.bytesLess]
  | x :: a, y :: b, h, hne => by
    simp only [Op.bytesLess, Bool.or_eq_false_iff, decide_eq_false_iff_not, Bool.and_eq_false_iff, beq_eq_false_iff_ne] at h
    simp only [Op.bytesLess, Bool.or_eq_true, decide_eq_true_eq, Bool.and_eq_true, beq_iff_eq]
    by_cases hxy : x = y
    · subst hxy
      refine .inr ⟨rfl, less_tri a b ?_ (fun e => hne (by rw [e]))⟩
      rcases h.2 with h' | h'
      · exact absurd rfl h'
      · exact h'
    · refine .inl ?_
      have := h.1
      rw [UInt8.lt_iff_toNat_lt] at this ⊢
      have : x.toNat ≠ y.toNat := fun e => hxy (UInt8.toNat_inj.1 e)
      omega

theorem toList_inj {a b : ByteArray} (h : a.toList = b.toList) : a = b := by
  rw [ByteArray.toList_eq, ByteArray.toList_eq] at h
  cases a; cases b
  simp at h
  rw [h]

theorem slt_irrefl (a : ByteArray) : slt a a = false := less_irrefl _

theorem slt_trans {a b c : ByteArray} (h1 : slt a b = true) (h2 : slt b c = true) : slt a c = true := less_trans h1 h2

theorem slt_tri {a b : ByteArray} (h : slt a b = false) (hne : a ≠ b) : slt b a = true := less_tri _ _ h (fun e => hne (toList_inj e))

theorem seq_iff {a b : ByteArray} : seq a b = true ↔ a = b := by
  unfold seq
  simp only [beq_iff_eq]
  exact ⟨toList_inj, fun e => by rw [e]⟩

theorem seq_eq (a b : ByteArray) : seq a b = decide (a = b) := by
  rw [Bool.eq_iff_iff, seq_iff]; simp

theorem in_eq (a b c : Int) : spec_l1In a b c = some (decide (a ≥ b) && decide (a ≤ c)) := by
  unfold spec_l1In
  cases decide (a ≥ b) <;> rfl

/-! ### Decimals -/
theorem bl_append (a b : ByteArray) : bl (a ++ b) = bl a ++ bl b := by
  unfold bl
  rw [ByteArray.toList_eq, ByteArray.toList_eq, ByteArray.toList_eq]
  simp

theorem bl_extract (s : ByteArray) (i j : Nat) : bl (s.extract i j) = ((bl s).drop i).take (j - i) := by
  unfold bl
  rw [ByteArray.toList_eq, ByteArray.toList_eq]
  simp [List.map_drop, List.map_take]

theorem bl_inj {a b : ByteArray} : bl a = bl b ↔ a = b := by
  constructor
  · intro h
    unfold bl at h
    refine toList_inj ?_
    have hinj : ∀ (x y : List UInt8), x.map (fun b => (b.toNat : Int)) = y.map (fun b => (b.toNat : Int)) → x = y := by
      intro x
      induction x with
      | nil => intro y h; cases y <;> simp_all
      | cons u x ih =>
        intro y h
        cases y with
        | nil => simp at h
        | cons v y =>
          simp only [List.map_cons, List.cons.injEq] at h
          rw [ih y h.2]
          have : u.toNat = v.toNat := by omega
          rw [UInt8.toNat_inj.1 this]
    exact hinj _ _ h
  · intro h; rw [h]

theorem seq_bl (a b : ByteArray) : seq a b = decide (bl a = bl b) := by
  rw [seq_eq]
  simp [bl_inj]

theorem bl_b2s1 {c : Int} (h0 : 0 ≤ c) (h1 : c ≤ 255) : bl (b2s [c]) = [c] := by
  unfold bl b2s
  rw [ByteArray.toList_eq]
  simp only [List.foldl_cons, List.foldl_nil]
  show [((UInt8.ofNat c.toNat).toNat : Int)] = [c]
  simp
  omega

theorem wrap_u8 {c : Int} (h0 : 0 ≤ c) (h1 : c ≤ 255) : IntKind.u8.wrap c = c := by
  simp only [IntKind.wrap, IntKind.signed, IntKind.bits]
  simp
  omega

/-- The digits of a number. -/
def decL (n : Nat) : List Int := if n < 10 then [48 + (n : Int)] else decL (n / 10) ++ [48 + ((n % 10 : Nat) : Int)]
termination_by n
decreasing_by omega

theorem decL_small {n : Nat} (h : n < 10) : decL n = [48 + (n : Int)] := by rw [decL, if_pos h]

theorem decL_big {n : Nat} (h : ¬ n < 10) : decL n = decL (n / 10) ++ [48 + ((n % 10 : Nat) : Int)] := by rw [decL, if_neg h]

theorem decL_length : ∀ (k n : Nat), 10 ^ k ≤ n → n < 10 ^ (k + 1) → (decL n).length = k + 1
  | 0, n, _, h => by rw [decL_small (by simpa using h)]; rfl
  | k + 1, n, h1, h2 => by
    have hp : 1 ≤ 10 ^ k := Nat.one_le_pow _ _ (by omega)
    rw [Nat.pow_succ] at h1
    rw [Nat.pow_succ] at h2
    rw [decL_big (by omega), List.length_append, decL_length k (n / 10) (by omega) (by omega)]
    rfl

theorem decL_le : ∀ (k n : Nat), n < 10 ^ (k + 1) → (decL n).length ≤ k + 1
  | 0, n, h => by rw [decL_small (by simpa using h)]; simp
  | k + 1, n, h => by
    by_cases hn : n < 10
    · rw [decL_small hn]; simp
    · rw [Nat.pow_succ] at h
      rw [decL_big hn, List.length_append]
      have := decL_le k (n / 10) (by omega)
      simp only [List.length_singleton]
      omega

theorem l1Decimal_r_eq (g : Int → Option ByteArray) (a1 : Int) : spec_l1Decimal_r g a1 = if decide (a1 < 10) then some (b2s [IntKind.u8.wrap (w64 (48 + a1))]) else (g (w64 (a1.tdiv 10))).bind fun x3 => (cat x3 (b2s [IntKind.u8.wrap (w64 (48 + (a1.tmod 10)))])).bind fun x5 => some x5 := rfl

theorem l1Decimal_fuel : ∀ (k f n : Nat), n < 10 ^ (k + 1) → k < f → n ≤ 9000000000000000000 → k ≤ 100 → ∃ s, recF spec_l1Decimal_r f (n : Int) = some s ∧ bl s = decL n
  | k, 0, n, _, hf, _, _ => by omega
  | k, f + 1, n, h, hf, hn, hk => by
    rw [show recF spec_l1Decimal_r (f + 1) (n : Int) = spec_l1Decimal_r (recF spec_l1Decimal_r f) (n : Int) from rfl, l1Decimal_r_eq]
    by_cases h1 : n < 10
    · rw [if_pos (by simp; omega), w64_of (by omega) (by omega), wrap_u8 (by omega) (by omega)]
      exact ⟨_, rfl, by rw [bl_b2s1 (by omega) (by omega), decL_small h1]⟩
    · rw [if_neg (by simp; omega)]
      cases k with
      | zero => simp at h; omega
      | succ k =>
        have e1 : w64 ((n : Int).tdiv 10) = ((n / 10 : Nat) : Int) := by
          rw [Int.tdiv_eq_ediv_of_nonneg (by omega), w64_of (by omega) (by omega)]; omega
        have e2 : (n : Int).tmod 10 = ((n % 10 : Nat) : Int) := by
          rw [Int.tmod_eq_emod_of_nonneg (by omega)]; omega
        rw [Nat.pow_succ] at h
        obtain ⟨s, e, hs⟩ := l1Decimal_fuel k f (n / 10) (by omega) (by omega) (by omega) (by omega)
        rw [e1, e2, e, w64_of (by omega) (by omega), wrap_u8 (by omega) (by omega)]
        have hsz : s.size ≤ k + 1 := by
          rw [← bl_length, hs]
          exact decL_le k (n / 10) (by omega)
        simp only [Option.bind_some]
        unfold cat
        rw [if_pos (by have : (b2s [48 + ((n % 10 : Nat) : Int)]).size = 1 := rfl; omega)]
        exact ⟨_, rfl, by rw [bl_append, hs, bl_b2s1 (by omega) (by omega), decL_big h1]⟩

theorem l1Decimal_some (n : Nat) (h : n ≤ 9000000000000000000) : ∃ s, spec_l1Decimal (n : Int) = some s ∧ bl s = decL n :=
  l1Decimal_fuel 18 64 n (by omega) (by omega) h (by omega)

theorem bl_bs (l : List UInt8) : bl (bs l) = l.map (fun b => (b.toNat : Int)) := by
  unfold bl bs
  rw [ByteArray.toList_eq]

theorem cat_of {a b : ByteArray} (h : a.size + b.size ≤ 1099511627776) : cat a b = some (a ++ b) := if_pos h

theorem ba_assoc (a b c : ByteArray) : a ++ b ++ c = a ++ (b ++ c) := bl_inj.1 (by simp only [bl_append, List.append_assoc])

theorem ba_size (a b : ByteArray) : (a ++ b).size = a.size + b.size := by
  rw [← bl_length, bl_append, List.length_append, bl_length, bl_length]

theorem u8_ofNat_toNat {n : Nat} (h : n < 256) : (UInt8.ofNat n).toNat = n := by
  simp [Nat.mod_eq_of_lt h]

theorem decDigits_eq : ∀ (n : Nat), (Lib.decDigits n).map (fun b => (b.toNat : Int)) = decL n := by
  intro n
  induction n using Nat.strongRecOn with
  | ind n ih =>
    rw [Lib.decDigits]
    by_cases h : n < 10
    · rw [dif_pos h, decL_small h]
      simp only [List.map_cons, List.map_nil]
      rw [u8_ofNat_toNat (by omega)]
      simp
    · rw [dif_neg h, decL_big h, List.map_append, ih (n / 10) (by omega)]
      simp only [List.map_cons, List.map_nil]
      rw [u8_ofNat_toNat (by omega)]
      simp

/-- The text of a number. -/
def decS (n : Nat) : ByteArray := ⟨(Lib.decDigits n).toArray⟩

theorem bl_decS (n : Nat) : bl (decS n) = decL n := by
  unfold bl decS
  rw [ByteArray.toList_eq]
  exact decDigits_eq n

theorem l1Decimal_eq (n : Nat) (h : n ≤ 9000000000000000000) : spec_l1Decimal (n : Int) = some (decS n) := by
  obtain ⟨s, e, hs⟩ := l1Decimal_some n h
  rw [e, bl_inj.1 (hs.trans (bl_decS n).symm)]

/-! ### strconv.FormatInt -/
theorem FormatInt_eq (n : Nat) (h : n ≤ 9000000000000000000) : strconv_FormatInt (n : Int) 10 = some (decS n) := by
  unfold strconv_FormatInt
  rw [if_pos (by omega)]
  unfold Lib.itoa decS
  rw [if_neg (by omega)]
  simp

/-! ### Bounds -/
def inB (a b c : Int) : Bool := decide (b ≤ a) && decide (a ≤ c)

theorem l1In_eq (a b c : Int) : spec_l1In a b c = some (inB a b c) := by
  unfold spec_l1In inB
  by_cases h : a ≥ b <;> simp [h]

theorem within_eq (a b c : Int) : impl_within a b c = some (inB a b c) := by
  unfold impl_within inB
  by_cases h : b ≤ a <;> simp [h]

section del
variable {α : Type} (p : α → Bool)
theorem lsub_of {xs : List α} {l h : Nat} (h1 : l ≤ h) (h2 : h ≤ xs.length) : lsub xs (l : Int) (h : Int) = some ((xs.drop l).take (h - l)) := by
  unfold lsub
  rw [if_pos (by omega)]
  rfl
end del

section del
variable {α : Type} (p : α → Bool)
theorem clrw_of {xs : List α} {l n : Nat} {a : α} (h : l + n ≤ xs.length) : clrw xs (l : Int) n a = some (xs.take l ++ List.replicate n a ++ xs.drop (l + n)) := by
  unfold clrw
  rw [if_pos (by omega)]
  simp [ovr]
end del

section del
variable {α : Type} (p : α → Bool)
/-- The first one that is meant; else the end. -/
theorem ixf_loop {R : Type} (a1 : List α) (out : Int → R) {b : Int → Option (Lp Int (Fl R Unit))} (hl : a1.length < 9223372036854775807)
    (hstep : ∀ (i : Nat) (hi : i < a1.length), b (i : Int) = some (if p a1[i] then .done (.ret (out i)) else .go ((i + 1 : Nat) : Int))) (hend : b (a1.length : Int) = some (.done (.nxt ()))) :
    ∃ t, loop b 0 = some t ∧ ((t = .nxt () ∧ ∀ x ∈ a1, p x = false) ∨ ∃ i : Nat, ∃ hi : i < a1.length, t = .ret (out i) ∧ p a1[i] = true ∧ ∀ x ∈ a1.take i, p x = false) := by
  refine loop_up (b := b) (fun i s => s = (i : Int) ∧ ∀ x ∈ a1.take i, p x = false) a1.length _ (by
    rintro i s hi ⟨rfl, hn⟩
    have e := hstep i hi
    cases hp : p a1[i]
    · rw [hp] at e
      refine .inl ⟨_, e, rfl, fun x hx => ?_⟩
      rw [List.take_succ_eq_append_getElem hi] at hx
      rcases List.mem_append.1 hx with hx | hx
      · exact hn x hx
      · simp at hx; rw [hx]; exact hp
    · rw [hp] at e
      exact .inr ⟨_, e, .inr ⟨i, hi, rfl, hp, hn⟩⟩) (by
    rintro s ⟨rfl, hn⟩
    rw [List.take_length] at hn
    exact ⟨_, hend, .inl ⟨rfl, hn⟩⟩) a1.length 0 0 (by omega) ⟨rfl, by simp⟩
end del

section del
variable {α : Type} (p : α → Bool)
theorem set_take {xs : List α} {i : Nat} {x : α} (h : i < xs.length) : (xs.set i x).take (i + 1) = xs.take i ++ [x] := by
  rw [List.take_succ_eq_append_getElem (by simpa using h), List.take_set_of_le (Nat.le_refl _)]
  simp
end del

section del
variable {α : Type} (p : α → Bool)
theorem set_drop {xs : List α} {i j : Nat} {x : α} (h : i < j) : (xs.set i x).drop j = xs.drop j := by
  rw [List.drop_set_of_lt h]
end del

section del
variable {α : Type} (p : α → Bool)
/-- The same, where the elements are known to be of the list. -/
theorem del_loop2 (a : List α) {b : (List α × Int × Int) → Option (Lp (List α × Int × Int) (List α × Int))} (hl : a.length < 9223372036854775807)
    (hstep : ∀ (xs : List α) (i j : Nat) (hj : j < xs.length), i ≤ j → xs.length = a.length → xs[j] ∈ a → b (xs, (i : Int), (j : Int)) = some (.go (if p xs[j] then (xs, (i : Int), ((j + 1 : Nat) : Int)) else (xs.set i xs[j], ((i + 1 : Nat) : Int), ((j + 1 : Nat) : Int)))))
    (hend : ∀ (xs : List α) (i : Nat), xs.length = a.length → b (xs, (i : Int), (xs.length : Int)) = some (.done (xs, (i : Int)))) (i0 j0 : Nat) (hij : i0 ≤ j0) (hj0 : j0 ≤ a.length) (h0 : a.take i0 = (a.take j0).filter (fun x => !p x)) :
    ∃ ys : List α, loop b (a, (i0 : Int), (j0 : Int)) = some (ys, ((a.filter (fun x => !p x)).length : Int)) ∧ ys.length = a.length ∧ ys.take (a.filter (fun x => !p x)).length = a.filter (fun x => !p x) := by
  obtain ⟨t, e, h⟩ := loop_up (b := b) (fun j s => s.1.length = a.length ∧ s.1.drop j = a.drop j ∧ s.2.2 = (j : Int) ∧ ∃ i : Nat, s.2.1 = (i : Int) ∧ i ≤ j ∧ s.1.take i = (a.take j).filter (fun x => !p x)) a.length
    (fun t => t.1.length = a.length ∧ ∃ i : Nat, t.2 = (i : Int) ∧ i ≤ a.length ∧ t.1.take i = a.filter (fun x => !p x)) (by
    rintro j ⟨xs, i', j'⟩ hj ⟨hxl, hxd, hjj, i, hi, hle, ht⟩
    simp only at hxl hxd hjj hi ht
    subst hjj hi
    have hjx : j < xs.length := by omega
    have hx : xs[j] = a[j] := by
      have := congrArg (fun l => l[0]?) hxd
      simp only [List.getElem?_drop, Nat.add_zero] at this
      rw [List.getElem?_eq_getElem hjx, List.getElem?_eq_getElem hj] at this
      exact Option.some.inj this
    have e := hstep xs i j hjx hle hxl (by rw [hx]; exact List.getElem_mem hj)
    have htk : (a.take (j + 1)).filter (fun x => !p x) = (a.take j).filter (fun x => !p x) ++ (if p a[j] then [] else [a[j]]) := by
      rw [List.take_succ_eq_append_getElem hj, List.filter_append]
      cases h : p a[j] <;> simp [h]
    have hd1 : a.drop (j + 1) = xs.drop (j + 1) := by
      have := congrArg (List.drop 1) hxd
      simpa [List.drop_drop] using this.symm
    rw [hx] at e
    cases hp : p a[j]
    · rw [hp] at e htk
      refine .inl ⟨_, e, by simpa using hxl, ?_, rfl, i + 1, rfl, by omega, ?_⟩
      · show (xs.set i a[j]).drop (j + 1) = a.drop (j + 1)
        rw [set_drop (by omega), hd1]
      · show (xs.set i a[j]).take (i + 1) = _
        rw [set_take (by omega), htk, ht]
        rfl
    · rw [hp] at e htk
      refine .inl ⟨_, e, hxl, ?_, rfl, i, rfl, by omega, ?_⟩
      · exact hd1.symm
      · show xs.take i = _
        rw [htk, ht]
        simp) (by
    rintro ⟨xs, i', j'⟩ ⟨hxl, hxd, hjj, i, hi, hle, ht⟩
    simp only at hxl hxd hjj hi ht
    subst hjj hi
    have e := hend xs i hxl
    rw [hxl] at e
    refine ⟨_, e, hxl, i, rfl, hle, ?_⟩
    rw [List.take_length] at ht
    exact ht) (a.length - j0) j0 (a, (i0 : Int), (j0 : Int)) (by omega) ⟨rfl, rfl, rfl, i0, rfl, hij, h0⟩
  obtain ⟨ys, i'⟩ := t
  obtain ⟨h1, i, h2, h3, h4⟩ := h
  simp only at h1 h2 h4
  subst h2
  have hlen : i = (a.filter (fun x => !p x)).length := by rw [← h4]; simp; omega
  subst hlen
  exact ⟨ys, e, h1, h4⟩
end del

section del
variable {α : Type} (p : α → Bool)
theorem fin_del {a ys : List α} (zero : α) (h1 : ys.length = a.length) (h2 : ys.take (a.filter (fun x => !p x)).length = a.filter (fun x => !p x)) :
    (lsub ys ((a.filter (fun x => !p x)).length : Int) (ys.length : Int)).bind (fun r => (clrw ys ((a.filter (fun x => !p x)).length : Int) r.length zero).bind fun z => (lsub z 0 ((a.filter (fun x => !p x)).length : Int)).bind fun q => some q) = some (a.filter (fun x => !p x)) := by
  have hle : (a.filter (fun x => !p x)).length ≤ ys.length := by rw [h1]; exact List.length_filter_le _ _
  rw [lsub_of hle (Nat.le_refl _)]
  simp only [Option.bind_some]
  rw [clrw_of (by simp; omega)]
  simp only [Option.bind_some]
  have : lsub (List.take (List.filter (fun x => !p x) a).length ys ++ List.replicate (List.take (ys.length - (List.filter (fun x => !p x) a).length) (List.drop (List.filter (fun x => !p x) a).length ys)).length zero ++
          List.drop ((List.filter (fun x => !p x) a).length + (List.take (ys.length - (List.filter (fun x => !p x) a).length) (List.drop (List.filter (fun x => !p x) a).length ys)).length) ys) ((0 : Nat) : Int) ((a.filter (fun x => !p x)).length : Int) = some (a.filter (fun x => !p x)) := by
    rw [lsub_of (by omega) (by simp; omega)]
    rw [h2]
    simp
  exact (congrArg (fun o => Option.bind o fun q => some q) this)
end del

section del
variable {α : Type} (p : α → Bool)
/-- slices.DeleteFunc, as it is told. -/
theorem del_gen (a : List α) (zero : α) (hl : a.length ≤ 1048577) {b1 : Int → Option (Lp Int (Fl Int Unit))} {b2 : (List α × Int × Int) → Option (Lp (List α × Int × Int) (List α × Int))}
    (h1 : ∀ (i : Nat) (hi : i < a.length), b1 (i : Int) = some (if p a[i] then .done (.ret (i : Int)) else .go ((i + 1 : Nat) : Int))) (h1e : b1 (a.length : Int) = some (.done (.nxt ())))
    (h2 : ∀ (xs : List α) (i j : Nat) (hj : j < xs.length), i ≤ j → xs.length = a.length → xs[j] ∈ a → b2 (xs, (i : Int), (j : Int)) = some (.go (if p xs[j] then (xs, (i : Int), ((j + 1 : Nat) : Int)) else (xs.set i xs[j], ((i + 1 : Nat) : Int), ((j + 1 : Nat) : Int)))))
    (h2e : ∀ (xs : List α) (i : Nat), xs.length = a.length → b2 (xs, (i : Int), (xs.length : Int)) = some (.done (xs, (i : Int)))) :
    ((loop b1 0).bind (Fl.go some fun _ => some (-1))).bind (fun x4 => if x4 == (-1) then (some a) else ((loop b2 (a, x4, w64 (x4 + 1))).bind fun v26 => (lsub v26.1 v26.2 (v26.1.length : Int)).bind fun x27 => (clrw v26.1 v26.2 x27.length zero).bind fun x29 => (lsub x29 0 v26.2).bind fun x31 => some x31)) = some (a.filter (fun x => !p x)) := by
  obtain ⟨t, e, h⟩ := ixf_loop p a (fun i => i) (b := b1) (by omega) h1 h1e
  rw [e]
  rcases h with ⟨rfl, hn⟩ | ⟨i, hi, rfl, hp, hn⟩
  · show some a = _
    congr 1
    exact (List.filter_eq_self.2 (fun x hx => by rw [hn x hx]; rfl)).symm
  · simp only [Option.bind_some, Fl.go]
    rw [if_neg (by simp), w64_nat (by omega)]
    obtain ⟨ys, e2, h3, h4⟩ := del_loop2 p a (b := b2) (by omega) h2 h2e i (i + 1) (by omega) (by omega) (by
      rw [List.take_succ_eq_append_getElem hi, List.filter_append]
      rw [List.filter_eq_self.2 (fun x hx => by rw [hn x hx]; rfl)]
      simp [hp])
    rw [e2]
    simp only [Option.bind_some]
    exact fin_del p zero h3 h4
end del

/-! ### Walks that stop at the first one -/
def scanL {α R : Type} (g : Nat → α → Option R) : Nat → List α → Option R
  | _, [] => none
  | i, x :: xs => match g i x with
    | some r => some r
    | none => scanL g (i + 1) xs

def frs {R : Type} : Option R → Fl R Unit
  | some r => .ret r
  | none => .nxt ()

theorem loop_scanI {α R : Type} (xs : List α) (g : Nat → α → Option R) {b : Int → Option (Lp Int (Fl R Unit))}
    (hstep : ∀ (i : Nat) (hi : i < xs.length), b (i : Int) = some (match g i xs[i] with | some r => .done (.ret r) | none => .go ((i + 1 : Nat) : Int))) (hend : b (xs.length : Int) = some (.done (.nxt ()))) :
    ∀ (k i : Nat), i + k = xs.length → loop b (i : Int) = some (frs (scanL g i (xs.drop i)))
  | 0, i, h => by
    have e : i = xs.length := by omega
    subst e
    rw [loop_eq, hend, List.drop_length]
    rfl
  | k + 1, i, h => by
    have hi : i < xs.length := by omega
    have ih := loop_scanI xs g hstep hend k (i + 1) (by omega)
    rw [loop_eq, hstep i hi, List.drop_eq_getElem_cons hi]
    simp only [scanL]
    cases g i xs[i] with
    | some r => rfl
    | none => exact ih

theorem loop_scan {α R : Type} (xs : List α) (g : Nat → α → Option R) {b : Int → Option (Lp Int (Fl R Unit))}
    (hstep : ∀ (i : Nat) (hi : i < xs.length), b (i : Int) = some (match g i xs[i] with | some r => .done (.ret r) | none => .go ((i + 1 : Nat) : Int))) (hend : b (xs.length : Int) = some (.done (.nxt ()))) :
    loop b 0 = some (frs (scanL g 0 xs)) := by
  have := loop_scanI xs g hstep hend xs.length 0 (by omega)
  simpa using this

theorem frs_go {R T : Type} (o : Option R) (f : R → Option T) (h : Unit → Option T) : (some (frs o)).bind (Fl.go f h) = match o with | some r => f r | none => h () := by
  cases o <;> rfl

/-- The place of the first one. -/
theorem scan_place {α : Type} (p : α → Bool) : ∀ (xs : List α) (i : Nat), ((scanL (fun j x => if p x then some (j : Int) else none) i xs).getD (-1) ≥ 0) ↔ xs.any p = true
  | [], i => by simp [scanL]
  | x :: xs, i => by
    simp only [scanL]
    cases h : p x
    · simp only [Bool.false_eq_true, if_false, List.any_cons, h, Bool.false_or]
      exact scan_place p xs (i + 1)
    · simp [h]

theorem scan_bool {α : Type} (p : α → Bool) : ∀ (xs : List α) (i : Nat), (scanL (fun _ x => if p x then some true else none) i xs).getD false = xs.any p
  | [], i => rfl
  | x :: xs, i => by
    simp only [scanL]
    cases h : p x
    · simp only [Bool.false_eq_true, if_false, List.any_cons, h, Bool.false_or]
      exact scan_bool p xs (i + 1)
    · simp [h]

def foldI {α A : Type} (f : Nat → A → α → A) : Nat → List α → A → A
  | _, [], a => a
  | i, x :: xs, a => foldI f (i + 1) xs (f i a x)

theorem loop_foldI {α A : Type} (xs : List α) (f : Nat → A → α → A) (I : Nat → A → Prop) {b : (A × Int) → Option (Lp (A × Int) A)}
    (hstep : ∀ (i : Nat) (a : A) (hi : i < xs.length), I i a → b (a, (i : Int)) = some (.go (f i a xs[i], ((i + 1 : Nat) : Int))) ∧ I (i + 1) (f i a xs[i])) (hend : ∀ a, b (a, (xs.length : Int)) = some (.done a)) :
    ∀ (k i : Nat) (a : A), i + k = xs.length → I i a → loop b (a, (i : Int)) = some (foldI f i (xs.drop i) a) ∧ I xs.length (foldI f i (xs.drop i) a)
  | 0, i, a, h, hI => by
    have e : i = xs.length := by omega
    subst e
    rw [loop_eq, hend, List.drop_length]
    exact ⟨rfl, hI⟩
  | k + 1, i, a, h, hI => by
    have hi : i < xs.length := by omega
    obtain ⟨h1, h2⟩ := hstep i a hi hI
    have ih := loop_foldI xs f I hstep hend k (i + 1) _ (by omega) h2
    rw [loop_eq, h1, List.drop_eq_getElem_cons hi]
    exact ih

theorem place_ge {o : Option Int} {b : Bool} (h : (o.getD (-1) ≥ 0) ↔ b = true) : decide (o.getD (-1) ≥ 0) = b := by
  rw [Bool.eq_iff_iff, decide_eq_true_eq]; exact h

/-! ### Paths and disks -/
def nameB (c : Int) : Bool := (decide (c ≥ 97) && decide (c ≤ 122)) || (decide (c ≥ 48) && decide (c ≤ 57)) || c == 95

def pathB (c : Int) : Bool := nameB c || c == 46 || c == 45 || c == 47

theorem spec_l1Name_eq (c : Int) : spec_l1Name c = some (nameB c) := by
  unfold spec_l1Name spec_l1Letter spec_l1Digit nameB
  cases decide (c ≥ 97) <;> cases decide (c ≤ 122) <;> cases decide (c ≥ 48) <;> cases decide (c ≤ 57) <;> rfl

theorem spec_l7Byte_eq (c : Int) : spec_l7Byte c = some (pathB c) := by
  unfold spec_l7Byte pathB
  rw [spec_l1Name_eq]
  cases nameB c <;> cases (c == 46) <;> cases (c == 45) <;> cases (c == 47) <;> rfl

theorem impl_isNameByte_eq (c : Int) : impl_isNameByte c = some (nameB c) := by
  unfold impl_isNameByte nameB
  cases decide (c ≥ 97) <;> cases decide (c ≤ 122) <;> cases decide (c ≥ 48) <;> cases decide (c ≤ 57) <;> rfl

theorem PathFault_eq (s : ByteArray) : impl_PathFault s = spec_PathFault s := by
  unfold impl_PathFault spec_PathFault
  have : impl_PathFault_l1 s = spec_PathFault_l1 s := by
    unfold impl_PathFault_l1 spec_PathFault_l1
    refine loop_congr fun i => ?_
    unfold impl_PathFault_l1b spec_PathFault_l1b
    split
    · congr 1
      funext c
      rw [spec_l7Byte_eq, impl_isNameByte_eq]
      unfold pathB
      simp only [bne]
      cases nameB c <;> cases (c == 46) <;> cases (c == 45) <;> cases (c == 47) <;> rfl
    · rfl
  rw [this]

def pathOk (s : ByteArray) : Prop := 1 ≤ s.size ∧ s.size ≤ 40 ∧ ∀ c ∈ bl s, pathB c = true

theorem PathFault_spec (s : ByteArray) : (pathOk s ∧ spec_PathFault s = some 0) ∨ (¬ pathOk s ∧ spec_PathFault s = some 5) := by
  unfold spec_PathFault
  by_cases h1 : s.size < 1
  · refine .inr ⟨fun h => by have := h.1; omega, ?_⟩
    rw [if_pos (by simp; omega)]; rfl
  · rw [if_neg (by simp; omega)]
    simp only [Option.bind_some]
    by_cases h2 : s.size > 40
    · refine .inr ⟨fun h => by have := h.2.1; omega, ?_⟩
      rw [if_pos (by simp; omega)]
    · rw [if_neg (by simp; omega)]
      obtain ⟨t, e, h⟩ := loop_up (b := spec_PathFault_l1b s) (fun i j => j = (i : Int) ∧ ∀ k, (hk : k < (bl s).length) → k < i → pathB (bl s)[k] = true) (bl s).length (fun t => match t with | .ret r => r = 5 ∧ ¬ pathOk s | .nxt _ => ∀ c ∈ bl s, pathB c = true) (by
        rintro i j hi ⟨rfl, hp⟩
        have hs := bl_length s
        unfold spec_PathFault_l1b
        rw [if_pos (by simp; omega), bidx_nat hi]
        simp only [Option.bind_some, spec_l7Byte_eq]
        cases hb : pathB (bl s)[i] with
        | false => exact .inr ⟨_, rfl, rfl, fun h => by have := h.2.2 _ (List.getElem_mem hi); rw [hb] at this; cases this⟩
        | true =>
          rw [w64_nat (by omega)]
          refine .inl ⟨_, rfl, rfl, fun k hk hki => ?_⟩
          rcases Nat.lt_or_ge k i with h | h
          · exact hp k hk h
          · have : k = i := by omega
            subst this; exact hb) (by
        rintro j ⟨rfl, hp⟩
        unfold spec_PathFault_l1b
        rw [if_neg (by simp [bl_length])]
        refine ⟨_, rfl, fun c hc => ?_⟩
        obtain ⟨k, hk, rfl⟩ := List.getElem_of_mem hc
        exact hp k hk hk) (bl s).length 0 0 (by omega) ⟨rfl, fun k _ h => by omega⟩
      simp only [spec_PathFault_l1, e, Option.bind_some]
      cases t with
      | ret r =>
        obtain ⟨rfl, h⟩ := h
        exact .inr ⟨h, rfl⟩
      | nxt u => exact .inl ⟨⟨by omega, by omega, h⟩, rfl⟩

theorem PathFault_some (s : ByteArray) : ∃ r, spec_PathFault s = some r ∧ (r = 0 ↔ pathOk s) := by
  rcases PathFault_spec s with ⟨h1, h2⟩ | ⟨h1, h2⟩
  · exact ⟨0, h2, by simp [h1]⟩
  · exact ⟨5, h2, by simp [h1]⟩

def total (fs : List File) : Int := match fs with
  | [] => 0
  | f :: fs => f.Data.length + total fs

theorem total_append : ∀ (l r : List File), total (l ++ r) = total l + total r
  | [], r => by simp [total]
  | f :: l, r => by simp only [List.cons_append, total, total_append l r]; omega

theorem total_nonneg : ∀ (l : List File), 0 ≤ total l
  | [] => Int.le_refl _
  | f :: l => by have := total_nonneg l; simp only [total]; omega

theorem total_le : ∀ (l : List File) (C : Int), 0 ≤ C → (∀ f ∈ l, (f.Data.length : Int) ≤ C) → total l ≤ l.length * C
  | [], C, _, _ => by simp [total]
  | f :: l, C, hC, h => by
    have h1 := h f (by simp)
    have h2 := total_le l C hC (fun g hg => h g (by simp [hg]))
    simp only [total, List.length_cons, Int.natCast_add, Int.add_mul]
    omega

/-- The bytes of all files. -/
theorem l7Total_eq (d : Disk) (h : d.Files.length ≤ 1048576) (hf : ∀ f ∈ d.Files, f.Data.length ≤ 1048576) : spec_l7Total d = some (total d.Files) := by
  have htot := total_le d.Files 1048576 (by omega) (fun f hm => by have := hf f hm; omega)
  have hb : ((d.Files.length : Int)) * 1048576 ≤ 1048576 * 1048576 := Int.mul_le_mul_of_nonneg_right (by omega) (by omega)
  obtain ⟨t, e, rfl⟩ := loop_up (b := spec_l7Total_l1b d) (fun i s => s = (total (d.Files.take i), (i : Int))) d.Files.length (fun t => t = total d.Files) (by
    rintro i s hi rfl
    unfold spec_l7Total_l1b
    rw [if_pos (by simp; omega)]
    have hsplit : total (d.Files.take (i + 1)) = total (d.Files.take i) + d.Files[i].Data.length := by
      rw [List.take_succ_eq_append_getElem hi, total_append]
      simp [total]
    have hle : total d.Files = total (d.Files.take (i + 1)) + total (d.Files.drop (i + 1)) := by rw [← total_append, List.take_append_drop]
    have h1 := total_nonneg (d.Files.take i)
    have h2 := total_nonneg (d.Files.drop (i + 1))
    simp only [idx_nat hi, Option.bind_some]
    rw [w64_of (by omega) (by omega), w64_nat (by omega)]
    exact .inl ⟨_, rfl, by rw [hsplit]⟩) (by
    rintro s rfl
    unfold spec_l7Total_l1b
    rw [if_neg (by simp)]
    exact ⟨_, rfl, by simp⟩) d.Files.length 0 (0, 0) (by omega) (by simp [total])
  simp only [spec_l7Total, spec_l7Total_l1, e, Option.bind_some]

/-- A disk that is right. -/
structure Disk.good (d : Disk) : Prop where
  b0 : 0 ≤ d.Budget
  b1 : d.Budget ≤ 20000
  w0 : 0 ≤ d.Writes
  w1 : d.Writes ≤ 1000000000
  s0 : -1 ≤ d.Stop
  s1 : d.Stop ≤ 1000000000
  len : d.Files.length ≤ 120
  path : ∀ f ∈ d.Files, pathOk f.Path
  data : ∀ f ∈ d.Files, f.Data.length ≤ 4000
  sorted : d.Files.Pairwise (fun f g => slt f.Path g.Path = true)
  room : total d.Files ≤ d.Budget

theorem DiskFault_same (d : Disk) : impl_DiskFault d = spec_DiskFault d := by
  unfold impl_DiskFault spec_DiskFault
  have : impl_DiskFault_l1 d = spec_DiskFault_l1 d := by
    unfold impl_DiskFault_l1 spec_DiskFault_l1
    refine loop_congr fun i => ?_
    unfold impl_DiskFault_l1b spec_DiskFault_l1b
    split
    · cases hx : idx d.Files i with
      | none => rfl
      | some x => simp only [Option.bind_some, PathFault_eq]
    · rfl
  rw [this]
  rfl

theorem sorted_of {xs : List File} (h : ∀ i, (hi : i + 1 < xs.length) → slt xs[i].Path xs[i + 1].Path = true) : xs.Pairwise (fun f g => slt f.Path g.Path = true) := by
  induction xs with
  | nil => exact .nil
  | cons x xs ih =>
    have h' : ∀ i, (hi : i + 1 < xs.length) → slt xs[i].Path xs[i + 1].Path = true := fun i hi => h (i + 1) (by simp; omega)
    have ih' := ih h'
    refine .cons ?_ ih'
    cases xs with
    | nil => simp
    | cons y ys =>
      have hxy : slt x.Path y.Path = true := by simpa using h 0 (by simp)
      intro z hz
      rcases List.mem_cons.1 hz with rfl | hz
      · exact hxy
      · exact slt_trans hxy ((List.pairwise_cons.1 ih').1 z hz)

theorem DiskFault_spec (d : Disk) (h : d.Files.length ≤ 1048576) : ∃ c, spec_DiskFault d = some c ∧ (c = 0 → d.good) := by
  unfold spec_DiskFault
  simp only [in_eq, Option.bind_some]
  by_cases hB : 0 ≤ d.Budget ∧ d.Budget ≤ 20000
  · by_cases hW : 0 ≤ d.Writes ∧ d.Writes ≤ 1000000000
    · by_cases hS : -1 ≤ d.Stop ∧ d.Stop ≤ 1000000000
      · simp [hB.1, hB.2, hW.1, hW.2, hS.1, hS.2]
        by_cases hl : 120 < d.Files.length
        · rw [if_pos (by omega)]
          exact ⟨2, rfl, by simp⟩
        · rw [if_neg (by omega)]
          obtain ⟨t, e, ht⟩ := loop_up (b := spec_DiskFault_l1b d) (fun i s => s = (i : Int) ∧ (∀ j, (hj : j < d.Files.length) → j < i → pathOk d.Files[j].Path ∧ d.Files[j].Data.length ≤ 4000) ∧ ∀ j, (hj : j + 1 < d.Files.length) → j + 1 < i → slt d.Files[j].Path d.Files[j + 1].Path = true) d.Files.length
            (fun t => match t with | .ret r => r ≠ 0 | .nxt _ => (∀ f ∈ d.Files, pathOk f.Path ∧ f.Data.length ≤ 4000) ∧ d.Files.Pairwise (fun f g => slt f.Path g.Path = true)) (by
            rintro i s hi ⟨rfl, h1, h2⟩
            unfold spec_DiskFault_l1b
            rw [if_pos (by simp; omega)]
            obtain ⟨r, hr, hr2⟩ := PathFault_some d.Files[i].Path
            simp only [idx_nat hi, Option.bind_some, hr]
            by_cases hr0 : r = 0
            · subst hr0
              rw [if_neg (by simp)]
              have key : ∃ q, (if decide ((i : Int) > 0) then (idx d.Files (w64 ((i : Int) - 1))).bind fun x39 => some (slt d.Files[i].Path x39.Path || seq d.Files[i].Path x39.Path) else some false) = some q ∧ (q = false → ∀ j, (hj : j + 1 < d.Files.length) → j + 1 < i + 1 → slt d.Files[j].Path d.Files[j + 1].Path = true) := by
                by_cases hp : i = 0
                · subst hp
                  exact ⟨false, by simp, fun _ j hj hji => by omega⟩
                · rw [if_pos (by simp; omega), w64_of (by omega) (by omega), show ((i : Int) - 1) = ((i - 1 : Nat) : Int) by omega, idx_nat (show i - 1 < d.Files.length by omega)]
                  refine ⟨_, rfl, fun hq j hj hji => ?_⟩
                  rcases Nat.lt_or_ge (j + 1) i with hlt | hge
                  · exact h2 j hj hlt
                  · have hj1 : j + 1 = i := by omega
                    subst hj1
                    simp only [Bool.or_eq_false_iff] at hq
                    have hq1 := hq.1
                    have hq2 : d.Files[j + 1].Path ≠ d.Files[j].Path := fun e => by
                      have := hq.2
                      simp only [Nat.add_sub_cancel] at this
                      rw [e] at this
                      simp at this
                    simp only [Nat.add_sub_cancel] at hq1
                    exact slt_tri hq1 hq2
              obtain ⟨q, hq, hq2⟩ := key
              rw [hq]
              simp only [Option.bind_some]
              cases q with
              | true => exact .inr ⟨_, rfl, by simp⟩
              | false =>
                by_cases hd : (d.Files[i].Data.length : Int) > 4000
                · exact .inr ⟨.ret 2, by rw [if_neg (by simp), if_pos (by simpa using hd)], by simp⟩
                · refine .inl ⟨((i + 1 : Nat) : Int), ?_, rfl, fun j hj hji => ?_, hq2 rfl⟩
                  · rw [if_neg (by simp), if_neg (by simpa using hd), w64_nat (by omega)]
                  · rcases Nat.lt_or_ge j i with h' | h'
                    · exact h1 j hj h'
                    · have : j = i := by omega
                      subst this
                      exact ⟨hr2.1 rfl, by omega⟩
            · rw [if_pos (by simpa using hr0)]
              exact .inr ⟨_, rfl, hr0⟩) (by
            rintro s ⟨rfl, h1, h2⟩
            unfold spec_DiskFault_l1b
            rw [if_neg (by simp)]
            refine ⟨_, rfl, fun f hf => ?_, sorted_of (fun i hi => h2 i hi hi)⟩
            obtain ⟨j, hj, rfl⟩ := List.getElem_of_mem hf
            exact h1 j hj hj) d.Files.length 0 0 (by omega) ⟨rfl, fun j _ h => by omega, fun j _ h => by omega⟩
          simp only [spec_DiskFault_l1, e, Option.bind_some]
          cases t with
          | ret r => exact ⟨r, rfl, fun h => absurd h ht⟩
          | nxt u =>
            simp only [Fl.go]
            rw [l7Total_eq d h (fun f hf => by have := (ht.1 f hf).2; omega)]
            simp only [Option.bind_some]
            by_cases hr : d.Budget < total d.Files
            · rw [if_pos hr]
              exact ⟨8, rfl, by simp⟩
            · rw [if_neg hr]
              exact ⟨0, rfl, fun _ => ⟨hB.1, hB.2, hW.1, hW.2, hS.1, hS.2, by omega, fun f hf => (ht.1 f hf).1, fun f hf => (ht.1 f hf).2, ht.2, by omega⟩⟩
      · refine ⟨3, ?_, by simp⟩
        simp [hB.1, hB.2, hW.1, hW.2]
        intro a b
        exact absurd ⟨a, b⟩ hS
    · refine ⟨3, ?_, by simp⟩
      simp [hB.1, hB.2]
      rw [if_pos (by omega)]
      rfl
  · refine ⟨3, ?_, by simp⟩
    rw [if_pos (by simp; omega)]
    rfl

/-! ### The paths that begin with something -/
theorem begins_eq (s p : ByteArray) : strings_HasPrefix s p = spec_l7Begins s p := by
  unfold strings_HasPrefix internal_stringslite_HasPrefix spec_l7Begins
  split
  · cases ssub s 0 (p.size : Int) <;> rfl
  · rfl

def begins (s p : ByteArray) : Bool := decide (p.size ≤ s.size) && seq (s.extract 0 p.size) p

theorem l7Begins_eq (s p : ByteArray) : spec_l7Begins s p = some (begins s p) := by
  unfold spec_l7Begins begins
  by_cases h : p.size ≤ s.size
  · rw [if_pos (by simp; omega)]
    unfold ssub
    rw [if_pos (by omega)]
    simp [h]
  · rw [if_neg (by simp; omega)]
    simp [h]

theorem paths_same (d : Disk) (p : ByteArray) : impl_Disk_paths d p = spec_l7Paths d p := by
  have : impl_Disk_paths_l1 d p = spec_l7Paths_l1 d p := by
    unfold impl_Disk_paths_l1 spec_l7Paths_l1
    refine loop_congr fun s => ?_
    unfold impl_Disk_paths_l1b spec_l7Paths_l1b
    split
    · cases h : idx d.Files s.2 with
      | none => rfl
      | some x => simp only [Option.bind_some, begins_eq]
    · rfl
  unfold impl_Disk_paths spec_l7Paths
  rw [this]

def pathsOf (fs : List File) (p : ByteArray) : List ByteArray := (fs.filter (fun f => begins f.Path p)).map (·.Path)

theorem pathsOf_append (l r : List File) (p : ByteArray) : pathsOf (l ++ r) p = pathsOf l p ++ pathsOf r p := by
  simp [pathsOf]

theorem pathsOf_length (l : List File) (p : ByteArray) : (pathsOf l p).length ≤ l.length := by
  simp only [pathsOf, List.length_map]
  exact List.length_filter_le _ _

theorem l7Paths_eq (d : Disk) (p : ByteArray) (h : d.Files.length ≤ 1048576) : spec_l7Paths d p = some (pathsOf d.Files p) := by
  obtain ⟨t, e, rfl⟩ := loop_up (b := spec_l7Paths_l1b d p) (fun i s => s = (pathsOf (d.Files.take i) p, (i : Int))) d.Files.length (fun t => t = pathsOf d.Files p) (by
    rintro i s hi rfl
    unfold spec_l7Paths_l1b
    rw [if_pos (by simp; omega)]
    have hl := pathsOf_length (d.Files.take i) p
    have hl2 : (d.Files.take i).length ≤ i := by simp; omega
    have ha : ∀ x : ByteArray, app 16 (pathsOf (d.Files.take i) p) [x] = some (pathsOf (d.Files.take i) p ++ [x]) := fun x => app_of (by simp; omega) (by simp; omega)
    have hsplit : pathsOf (d.Files.take (i + 1)) p = pathsOf (d.Files.take i) p ++ pathsOf [d.Files[i]] p := by
      rw [List.take_succ_eq_append_getElem hi, pathsOf_append]
    simp only [idx_nat hi, Option.bind_some, l7Begins_eq, ha, w64_nat (show i < 9223372036854775807 by omega)]
    cases hb : begins d.Files[i].Path p with
    | true => exact .inl ⟨_, rfl, by rw [hsplit]; simp [pathsOf, hb]⟩
    | false => exact .inl ⟨_, rfl, by rw [hsplit]; simp [pathsOf, hb]⟩) (by
    rintro s rfl
    unfold spec_l7Paths_l1b
    rw [if_neg (by simp)]
    exact ⟨_, rfl, by simp⟩) d.Files.length 0 ([], 0) (by omega) (by simp [pathsOf])
  simp only [spec_l7Paths, spec_l7Paths_l1, e, Option.bind_some]

/-! ### Where a file stands -/
theorem cmp_less : ∀ (a b : List UInt8), (Lib.compareBytes a b < 0 ↔ Op.bytesLess a b = true) ∧ (Lib.compareBytes a b = 0 ↔ a = b)
  | [], [] => by simp [Lib.compareBytes, Op.bytesLess]
  | [], _ :: _ => by simp [Lib.compareBytes, Op.bytesLess]
  | _ :: _, [] => by simp [Lib.compareBytes, Op.bytesLess]
  | x :: a, y :: b => by
    obtain ⟨ih1, ih2⟩ := cmp_less a b
    simp only [Lib.compareBytes, Op.bytesLess]
    by_cases h1 : x < y
    · simp [h1]
      intro e; subst e; exact absurd h1 (by simp [UInt8.lt_irrefl])
    · by_cases h2 : y < x
      · simp [h1, h2]
        have hne : x ≠ y := fun e => by subst e; exact absurd h2 (by simp [UInt8.lt_irrefl])
        simp [hne]
      · have e : x = y := by
          rw [UInt8.lt_iff_toNat_lt] at h1 h2
          exact UInt8.toNat_inj.1 (by omega)
        subst e
        simp [UInt8.lt_irrefl, ih1, ih2]

theorem cmpB_lt (a b : ByteArray) : cmpB a b < 0 ↔ slt a b = true := by
  unfold cmpB slt
  rw [ByteArray.toList_eq, ByteArray.toList_eq]
  exact (cmp_less _ _).1

theorem cmpB_eq (a b : ByteArray) : cmpB a b = 0 ↔ a = b := by
  unfold cmpB
  rw [(cmp_less _ _).2, ← ByteArray.toList_eq, ← ByteArray.toList_eq]
  exact ⟨toList_inj, fun e => by rw [e]⟩

theorem half_eq {i j : Int} (h0 : 0 ≤ i) (h1 : i ≤ j) (h2 : j ≤ 4611686018427387903) : w64 ((IntKind.u64.wrap (w64 (i + j))).fdiv (2 ^ (min (1 : Int).toNat 64))) = (i + j) / 2 := by
  rw [w64_of (x := i + j) (by omega) (by omega)]
  have e1 : IntKind.u64.wrap (i + j) = i + j := by
    simp only [IntKind.wrap, IntKind.signed, IntKind.bits]
    simp
    omega
  rw [e1]
  have e2 : ((2 : Int) ^ (min (1 : Int).toNat 64)) = 2 := by decide
  rw [e2, Int.fdiv_eq_ediv_of_nonneg _ (by omega)]
  exact w64_of (by omega) (by omega)

theorem place_1_eq (f : File) (p : ByteArray) : impl_Disk_place_1 f p = some (cmpB f.Path p) := rfl

theorem place_some (fs : List File) (p : ByteArray) (h : fs.length ≤ 1048576) :
    ∃ (k : Nat) (b : Bool), slices_BinarySearchFunc_LimplFile_impl_Disk_place_1 fs p = some ((k : Int), b) ∧ k ≤ fs.length ∧ (b = true → ∃ hk : k < fs.length, fs[k].Path = p) ∧
      (fs.Pairwise (fun f g => slt f.Path g.Path = true) → (∀ i, (hi : i < fs.length) → i < k → slt fs[i].Path p = true) ∧ (∀ i, (hi : i < fs.length) → k ≤ i → slt fs[i].Path p = false) ∧ (b = false → ∀ f ∈ fs, f.Path ≠ p)) := by
  obtain ⟨t, e, k, rfl, hk, hs⟩ := loop_meas (b := slices_BinarySearchFunc_LimplFile_impl_Disk_place_1_l1b fs p)
    (fun s => ∃ i j : Nat, s = ((i : Int), (j : Int)) ∧ i ≤ j ∧ j ≤ fs.length ∧ (fs.Pairwise (fun f g => slt f.Path g.Path = true) → (∀ q, (hq : q < fs.length) → q < i → slt fs[q].Path p = true) ∧ (∀ q, (hq : q < fs.length) → j ≤ q → slt fs[q].Path p = false)))
    (fun s => (s.2 - s.1).toNat)
    (fun t => ∃ k : Nat, t = (k : Int) ∧ k ≤ fs.length ∧ (fs.Pairwise (fun f g => slt f.Path g.Path = true) → (∀ q, (hq : q < fs.length) → q < k → slt fs[q].Path p = true) ∧ (∀ q, (hq : q < fs.length) → k ≤ q → slt fs[q].Path p = false))) (by
    rintro s ⟨i, j, rfl, hij, hj, hP⟩
    unfold slices_BinarySearchFunc_LimplFile_impl_Disk_place_1_l1b
    by_cases hlt : i < j
    · left
      rw [if_pos (by simp; omega)]
      simp only
      rw [half_eq (by omega) (by omega) (by omega)]
      have hm : (((i : Int) + (j : Int)) / 2) = (((i + j) / 2 : Nat) : Int) := by omega
      rw [hm]
      have hmj : (i + j) / 2 < j := by omega
      have him : i ≤ (i + j) / 2 := by omega
      generalize (i + j) / 2 = m at *
      have hmn : m < fs.length := by omega
      simp only [idx_nat hmn, Option.bind_some, place_1_eq]
      by_cases hc : cmpB fs[m].Path p < 0
      · rw [if_pos (by simpa using hc), w64_nat (by omega)]
        refine ⟨_, rfl, ⟨m + 1, j, rfl, by omega, hj, fun hso => ?_⟩, by simp; omega⟩
        obtain ⟨g1, g2⟩ := hP hso
        refine ⟨fun q hq hqm => ?_, g2⟩
        have hl := (cmpB_lt _ _).1 hc
        rcases Nat.lt_or_ge q m with h' | h'
        · exact slt_trans (List.pairwise_iff_getElem.1 hso q m hq hmn h') hl
        · have : q = m := by omega
          subst this; exact hl
      · rw [if_neg (by simpa using hc)]
        refine ⟨_, rfl, ⟨i, m, rfl, by omega, by omega, fun hso => ?_⟩, by simp; omega⟩
        obtain ⟨g1, g2⟩ := hP hso
        refine ⟨g1, fun q hq hmq => ?_⟩
        have hl : slt fs[m].Path p = false := by
          cases h' : slt fs[m].Path p with
          | false => rfl
          | true => exact absurd ((cmpB_lt _ _).2 h') hc
        rcases Nat.lt_or_ge m q with h' | h'
        · cases hq2 : slt fs[q].Path p with
          | false => rfl
          | true =>
            have := slt_trans (List.pairwise_iff_getElem.1 hso m q hmn hq h') hq2
            rw [hl] at this; cases this
        · have : q = m := by omega
          subst this; exact hl
    · right
      rw [if_neg (by simp; omega)]
      have : i = j := by omega
      subst this
      exact ⟨_, rfl, i, rfl, by omega, hP⟩) fs.length (0, (fs.length : Int)) (by simp) ⟨0, fs.length, rfl, by omega, by omega, fun _ => ⟨fun q _ h => by omega, fun q hq h => by omega⟩⟩
  unfold slices_BinarySearchFunc_LimplFile_impl_Disk_place_1
  rw [show slices_BinarySearchFunc_LimplFile_impl_Disk_place_1_l1 fs p (0, (fs.length : Int)) = some (k : Int) from e]
  simp only [Option.bind_some]
  by_cases hkn : k < fs.length
  · rw [if_pos (by simpa using hkn)]
    simp only [idx_nat hkn, Option.bind_some, place_1_eq]
    refine ⟨k, _, rfl, hk, fun hb => ⟨hkn, (cmpB_eq _ _).1 (by simpa using hb)⟩, fun hso => ⟨(hs hso).1, (hs hso).2, fun hb f hf hfp => ?_⟩⟩
    have hne : cmpB fs[k].Path p ≠ 0 := by simpa using hb
    obtain ⟨q, hq, rfl⟩ := List.getElem_of_mem hf
    rcases Nat.lt_trichotomy q k with h' | h' | h'
    · have := (hs hso).1 q hq h'
      rw [hfp, slt_irrefl] at this; cases this
    · subst h'; exact hne ((cmpB_eq _ _).2 hfp)
    · have h1 := List.pairwise_iff_getElem.1 hso k q hkn hq h'
      have h2 := (hs hso).2 k hkn (Nat.le_refl _)
      rw [hfp] at h1
      rw [h1] at h2; cases h2
  · rw [if_neg (by simpa using hkn)]
    refine ⟨k, false, rfl, hk, (fun hb => by cases hb), fun hso => ⟨(hs hso).1, (hs hso).2, fun _ f hf hfp => ?_⟩⟩
    obtain ⟨q, hq, rfl⟩ := List.getElem_of_mem hf
    have := (hs hso).1 q hq (by omega)
    rw [hfp, slt_irrefl] at this; cases this

/-- What the reference finds. -/
theorem l7Find_some (d : Disk) (p : ByteArray) (h : d.Files.length ≤ 1048576) :
    (∃ k : Nat, ∃ hk : k < d.Files.length, spec_l7Find d p = some (k : Int) ∧ d.Files[k].Path = p) ∨ (spec_l7Find d p = some (-1) ∧ ∀ f ∈ d.Files, f.Path ≠ p) := by
  obtain ⟨t, e, ht⟩ := loop_up (b := spec_l7Find_l1b d p) (fun i s => s = (i : Int) ∧ ∀ q, (hq : q < d.Files.length) → q < i → d.Files[q].Path ≠ p) d.Files.length
    (fun t => match t with | .ret r => ∃ k : Nat, ∃ hk : k < d.Files.length, r = (k : Int) ∧ d.Files[k].Path = p | .nxt _ => ∀ f ∈ d.Files, f.Path ≠ p) (by
    rintro i s hi ⟨rfl, hq⟩
    unfold spec_l7Find_l1b
    rw [if_pos (by simp; omega)]
    simp only [idx_nat hi, Option.bind_some]
    by_cases hp : d.Files[i].Path = p
    · rw [if_pos (seq_iff.2 hp)]
      exact .inr ⟨_, rfl, i, hi, rfl, hp⟩
    · rw [if_neg (fun h' => hp (seq_iff.1 h')), w64_nat (by omega)]
      refine .inl ⟨_, rfl, rfl, fun q hq' hqi => ?_⟩
      rcases Nat.lt_or_ge q i with h' | h'
      · exact hq q hq' h'
      · have : q = i := by omega
        subst this; exact hp) (by
    rintro s ⟨rfl, hq⟩
    unfold spec_l7Find_l1b
    rw [if_neg (by simp)]
    refine ⟨_, rfl, fun f hf => ?_⟩
    obtain ⟨q, hq', rfl⟩ := List.getElem_of_mem hf
    exact hq q hq' hq') d.Files.length 0 0 (by omega) ⟨rfl, fun q _ h => by omega⟩
  unfold spec_l7Find
  rw [show spec_l7Find_l1 d p 0 = some t from e]
  cases t with
  | ret r =>
    obtain ⟨k, hk, rfl, hp⟩ := ht
    exact .inl ⟨k, hk, rfl, hp⟩
  | nxt _ => exact .inr ⟨rfl, ht⟩

theorem sorted_inj {fs : List File} (hs : fs.Pairwise (fun f g => slt f.Path g.Path = true)) {i j : Nat} (hi : i < fs.length) (hj : j < fs.length) (h : fs[i].Path = fs[j].Path) : i = j := by
  rcases Nat.lt_trichotomy i j with h' | h' | h'
  · have := List.pairwise_iff_getElem.1 hs i j hi hj h'
    rw [h, slt_irrefl] at this; cases this
  · exact h'
  · have := List.pairwise_iff_getElem.1 hs j i hj hi h'
    rw [h, slt_irrefl] at this; cases this

/-- Both find the same on a disk that is right. -/
theorem find_both (d : Disk) (p : ByteArray) (hg : d.good) :
    (∃ k : Nat, ∃ hk : k < d.Files.length, spec_l7Find d p = some (k : Int) ∧ slices_BinarySearchFunc_LimplFile_impl_Disk_place_1 d.Files p = some ((k : Int), true) ∧ d.Files[k].Path = p) ∨
      (spec_l7Find d p = some (-1) ∧ (∀ f ∈ d.Files, f.Path ≠ p) ∧ ∃ k : Nat, slices_BinarySearchFunc_LimplFile_impl_Disk_place_1 d.Files p = some ((k : Int), false) ∧ k ≤ d.Files.length ∧ (∀ i, (hi : i < d.Files.length) → i < k → slt d.Files[i].Path p = true) ∧ (∀ i, (hi : i < d.Files.length) → k ≤ i → slt d.Files[i].Path p = false)) := by
  have hl : d.Files.length ≤ 1048576 := by have := hg.len; omega
  obtain ⟨k, b, e, hk, h1, h2⟩ := place_some d.Files p hl
  obtain ⟨g1, g2, g3⟩ := h2 hg.sorted
  rcases l7Find_some d p hl with ⟨q, hq, e2, hp⟩ | ⟨e2, hp⟩
  · left
    cases b with
    | false => exact absurd hp (g3 rfl _ (List.getElem_mem hq))
    | true =>
      obtain ⟨hk', hp'⟩ := h1 rfl
      have : q = k := sorted_inj hg.sorted hq hk' (by rw [hp, hp'])
      subst this
      exact ⟨q, hq, e2, e, hp⟩
  · right
    cases b with
    | true =>
      obtain ⟨hk', hp'⟩ := h1 rfl
      exact absurd hp' (hp _ (List.getElem_mem hk'))
    | false => exact ⟨e2, hp, k, e, hk, g1, g2⟩

theorem data_both (d : Disk) (p : ByteArray) (hg : d.good) :
    (∃ k : Nat, ∃ hk : k < d.Files.length, spec_l7Find d p = some (k : Int) ∧ impl_Disk_data d p = some (d.Files[k].Data, true) ∧ d.Files[k].Path = p) ∨
      (spec_l7Find d p = some (-1) ∧ impl_Disk_data d p = some ([], false) ∧ ∀ f ∈ d.Files, f.Path ≠ p) := by
  rcases find_both d p hg with ⟨k, hk, e1, e2, hp⟩ | ⟨e1, hp, k, e2, _⟩
  · left
    refine ⟨k, hk, e1, ?_, hp⟩
    unfold impl_Disk_data impl_Disk_place
    rw [e2]
    simp only [Option.bind_some, Bool.not_true, Bool.false_eq_true, if_false, idx_nat hk]
  · right
    refine ⟨e1, ?_, hp⟩
    unfold impl_Disk_data impl_Disk_place
    rw [e2]
    rfl

/-! ### Numbers in decimal -/
theorem list_rev {P : List Int → Prop} (h0 : P []) (h1 : ∀ l c, P l → P (l ++ [c])) (l : List Int) : P l := by
  have key : ∀ m : List Int, P m.reverse := by
    intro m
    induction m with
    | nil => exact h0
    | cons c m ih => rw [List.reverse_cons]; exact h1 _ c ih
  have := key l.reverse
  rwa [List.reverse_reverse] at this

def digB (c : Int) : Bool := decide (c ≥ 48) && decide (c ≤ 57)

def val (l : List Int) : Int := l.foldl (fun a c => a * 10 + (c - 48)) 0

theorem val_snoc (l : List Int) (c : Int) : val (l ++ [c]) = val l * 10 + (c - 48) := by simp [val]

theorem val_bound {l : List Int} (h : ∀ c ∈ l, digB c = true) : 0 ≤ val l ∧ val l < 10 ^ l.length := by
  revert h
  refine list_rev (P := fun l => (∀ c ∈ l, digB c = true) → 0 ≤ val l ∧ val l < 10 ^ l.length) ?_ ?_ l
  · intro _; simp [val]
  · intro l c ih h
    obtain ⟨h1, h2⟩ := ih (fun x hx => h x (by simp [hx]))
    have hc := h c (by simp)
    simp only [digB, Bool.and_eq_true, decide_eq_true_eq] at hc
    rw [val_snoc, List.length_append, List.length_singleton, Int.pow_succ]
    omega

/-- Digits, so many at most, as a number. -/
def numL (l : List Int) (most : Int) : Option Int := if l.length < 1 ∨ (l.length : Int) > most ∨ ¬ (∀ c ∈ l, digB c = true) then none else some (val l)

theorem pow_le18 {n : Nat} (h : n ≤ 17) : (10 : Int) ^ n ≤ 100000000000000000 := by
  have : (10 : Nat) ^ n ≤ 10 ^ 17 := Nat.pow_le_pow_right (by omega) h
  have e : ((10 ^ n : Nat) : Int) = (10 : Int) ^ n := by simp
  rw [← e]
  omega

theorem spec_l1Digit_eq (c : Int) : spec_l1Digit c = some (digB c) := by
  unfold spec_l1Digit digB
  cases decide (c ≥ 48) <;> rfl

theorem l1Number_eq (s : ByteArray) (most : Int) (hm : most ≤ 17) : spec_l1Number s most = some (match numL (bl s) most with | some n => (n, true) | none => (0, false)) := by
  unfold spec_l1Number numL
  have hl := bl_length s
  by_cases h1 : s.size < 1
  · rw [if_pos (by simp; omega), if_pos (by omega)]
    rfl
  · rw [if_neg (by simp; omega)]
    simp only [Option.bind_some]
    by_cases h2 : (s.size : Int) > most
    · rw [if_pos (by simpa using h2), if_pos (by omega)]
    · rw [if_neg (by simpa using h2)]
      obtain ⟨t, e, ht⟩ := loop_up (b := spec_l1Number_l1b s) (fun i q => q = (val ((bl s).take i), (i : Int)) ∧ ∀ c ∈ (bl s).take i, digB c = true) (bl s).length
        (fun t => match t with | .ret r => r = (0, false) ∧ ¬ ∀ c ∈ bl s, digB c = true | .nxt v => v = val (bl s) ∧ ∀ c ∈ bl s, digB c = true) (by
        rintro i q hi ⟨rfl, hd⟩
        have hb := val_bound hd
        have hlen : ((bl s).take i).length ≤ 17 := by simp; omega
        have hp := pow_le18 hlen
        have hr := bl_range _ (List.getElem_mem hi)
        unfold spec_l1Number_l1b
        rw [if_pos (by simp; omega)]
        simp only [bidx_nat hi, Option.bind_some, spec_l1Digit_eq]
        cases hc : digB (bl s)[i] with
        | false => exact .inr ⟨_, rfl, rfl, fun h => by have := h _ (List.getElem_mem hi); rw [hc] at this; cases this⟩
        | true =>
          have hc' := hc
          simp only [digB, Bool.and_eq_true, decide_eq_true_eq] at hc'
          rw [wrap_u8 (by omega) (by omega), w64_of (x := (bl s)[i] - 48) (by omega) (by omega), w64_of (x := val ((bl s).take i) * 10) (by omega) (by omega), w64_of (by omega) (by omega), w64_nat (by omega)]
          refine .inl ⟨_, rfl, by rw [List.take_succ_eq_append_getElem hi, val_snoc], fun c hcm => ?_⟩
          rw [List.take_succ_eq_append_getElem hi] at hcm
          rcases List.mem_append.1 hcm with h | h
          · exact hd c h
          · simp at h; rw [h]; exact hc) (by
        rintro q ⟨rfl, hd⟩
        unfold spec_l1Number_l1b
        rw [if_neg (by simp; omega)]
        rw [List.take_length] at hd ⊢
        exact ⟨_, rfl, rfl, hd⟩) (bl s).length 0 (0, 0) (by omega) ⟨by simp [val], by simp⟩
      unfold spec_l1Number_l1
      rw [e]
      cases t with
      | ret r =>
        obtain ⟨rfl, h⟩ := ht
        rw [if_pos (.inr (.inr h))]
        rfl
      | nxt v =>
        obtain ⟨rfl, h⟩ := ht
        rw [if_neg (fun h' => by rcases h' with h' | h' | h' <;> first | omega | exact h' h)]
        rfl

theorem number_eq (s : ByteArray) (most : Int) (hm : most ≤ 17) : impl_number s most = some (match numL (bl s) most with | some n => n | none => -1) := by
  unfold impl_number numL
  have hl := bl_length s
  have he : seq s (bs []) = decide (s.size < 1) := by
    rw [seq_bl, bl_bs, List.map_nil]
    rw [Bool.eq_iff_iff]
    simp only [decide_eq_true_eq]
    constructor
    · intro h; rw [h] at hl; simp at hl; omega
    · intro h; exact List.eq_nil_of_length_eq_zero (by omega)
  rw [he]
  by_cases h1 : s.size < 1
  · rw [if_pos (by simpa using h1), if_pos (by omega)]
    rfl
  · rw [if_neg (by simpa using h1)]
    simp only [Option.bind_some]
    by_cases h2 : (s.size : Int) > most
    · rw [if_pos (by simpa using h2), if_pos (by omega)]
    · rw [if_neg (by simpa using h2)]
      obtain ⟨t, e, ht⟩ := loop_up (b := impl_number_l1b s) (fun i q => q = (val ((bl s).take i), (i : Int)) ∧ ∀ c ∈ (bl s).take i, digB c = true) (bl s).length
        (fun t => match t with | .ret r => r = -1 ∧ ¬ ∀ c ∈ bl s, digB c = true | .nxt v => v = val (bl s) ∧ ∀ c ∈ bl s, digB c = true) (by
        rintro i q hi ⟨rfl, hd⟩
        have hb := val_bound hd
        have hlen : ((bl s).take i).length ≤ 17 := by simp; omega
        have hp := pow_le18 hlen
        have hr := bl_range _ (List.getElem_mem hi)
        unfold impl_number_l1b
        rw [if_pos (by simp; omega)]
        simp only [bidx_nat hi, Option.bind_some]
        have hq : (if decide ((bl s)[i] < 48) = true then some true else some (decide ((bl s)[i] > 57))) = some (!digB (bl s)[i]) := by
          unfold digB
          by_cases a : (bl s)[i] < 48
          · have b : ¬ ((bl s)[i] ≥ 48) := by omega
            simp [a, b]
          · have b : (bl s)[i] ≥ 48 := by omega
            by_cases c : (bl s)[i] > 57
            · have d : ¬ ((bl s)[i] ≤ 57) := by omega
              simp [a, b, c, d]
            · have d : (bl s)[i] ≤ 57 := by omega
              simp [a, b, c, d]
        rw [hq]
        simp only [Option.bind_some]
        cases hc : digB (bl s)[i] with
        | false => exact .inr ⟨_, rfl, rfl, fun h => by have := h _ (List.getElem_mem hi); rw [hc] at this; cases this⟩
        | true =>
          have hc' := hc
          simp only [digB, Bool.and_eq_true, decide_eq_true_eq] at hc'
          rw [wrap_u8 (by omega) (by omega), w64_of (x := (bl s)[i] - 48) (by omega) (by omega), w64_of (x := 10 * val ((bl s).take i)) (by omega) (by omega), w64_of (by omega) (by omega), w64_nat (by omega)]
          refine .inl ⟨_, rfl, by rw [List.take_succ_eq_append_getElem hi, val_snoc, Int.mul_comm], fun c hcm => ?_⟩
          rw [List.take_succ_eq_append_getElem hi] at hcm
          rcases List.mem_append.1 hcm with h | h
          · exact hd c h
          · simp at h; rw [h]; exact hc) (by
        rintro q ⟨rfl, hd⟩
        unfold impl_number_l1b
        rw [if_neg (by simp; omega)]
        rw [List.take_length] at hd ⊢
        exact ⟨_, rfl, rfl, hd⟩) (bl s).length 0 (0, 0) (by omega) ⟨by simp [val], by simp⟩
      unfold impl_number_l1
      rw [e]
      cases t with
      | ret r =>
        obtain ⟨rfl, h⟩ := ht
        rw [if_pos (.inr (.inr h))]
        rfl
      | nxt v =>
        obtain ⟨rfl, h⟩ := ht
        rw [if_neg (fun h' => by rcases h' with h' | h' | h' <;> first | omega | exact h' h)]
        rfl

/-- The digits of a number. -/
theorem decL_val {l : List Int} (h : ∀ c ∈ l, digB c = true) : decL (10 ^ l.length + (val l).toNat) = 49 :: l := by
  revert h
  refine list_rev (P := fun l => (∀ c ∈ l, digB c = true) → decL (10 ^ l.length + (val l).toNat) = 49 :: l) ?_ ?_ l
  · intro _; rw [decL_small (by decide)]; rfl
  · intro l c ih h
    have hl : ∀ c ∈ l, digB c = true := fun x hx => h x (by simp [hx])
    have hb := val_bound hl
    have hc := h c (by simp)
    simp only [digB, Bool.and_eq_true, decide_eq_true_eq] at hc
    have e1 : (val (l ++ [c])).toNat = (val l).toNat * 10 + (c - 48).toNat := by rw [val_snoc]; omega
    have e2 : 10 ^ (l ++ [c]).length = 10 ^ l.length * 10 := by rw [List.length_append, List.length_singleton, Nat.pow_succ]
    have hp : 1 ≤ 10 ^ l.length := Nat.one_le_pow _ _ (by omega)
    rw [e1, e2, decL_big (by omega)]
    have e3 : (10 ^ l.length * 10 + ((val l).toNat * 10 + (c - 48).toNat)) / 10 = 10 ^ l.length + (val l).toNat := by omega
    have e4 : (10 ^ l.length * 10 + ((val l).toNat * 10 + (c - 48).toNat)) % 10 = (c - 48).toNat := by omega
    rw [e3, e4, ih hl, List.cons_append]
    congr 3
    omega

/-! ### Generations -/
def genP : List Int := [103, 101, 110, 47]

theorem bl_gen : bl (bs [103, 101, 110, 47]) = genP := bl_bs _

theorem GenPath_eq (n : Int) : ∃ s, spec_GenPath n = some s ∧ bl s = (if 1 ≤ n ∧ n ≤ 999999 then genP ++ (decL (1000000 + n.toNat)).drop 1 else []) := by
  unfold spec_GenPath
  rw [in_eq]
  simp only [Option.bind_some]
  by_cases h : 1 ≤ n ∧ n ≤ 999999
  · rw [if_pos h]
    have hb : (decide (n ≥ 1) && decide (n ≤ 999999)) = true := by simp; omega
    rw [hb]
    rw [w64_of (by omega) (by omega), show (1000000 : Int) + n = ((1000000 + n.toNat : Nat) : Int) by omega]
    obtain ⟨s, e, hs⟩ := l1Decimal_some (1000000 + n.toNat) (by omega)
    have hlen : (decL (1000000 + n.toNat)).length = 7 := decL_length 6 _ (by omega) (by omega)
    have hsz : s.size = 7 := by rw [← bl_length, hs, hlen]
    rw [e]
    simp only [Bool.not_true, Bool.false_eq_true, if_false, Option.bind_some]
    unfold ssub
    rw [if_pos (by omega)]
    simp only [Option.bind_some]
    have hx : (s.extract (1 : Int).toNat ((s.size : Int)).toNat).size = 6 := by
      rw [← bl_length, bl_extract, List.length_take, List.length_drop, hs, hlen, hsz]
      rfl
    unfold cat
    rw [if_pos (by have : (bs [103, 101, 110, 47]).size = 4 := rfl; omega)]
    refine ⟨_, rfl, ?_⟩
    rw [bl_append, bl_gen, bl_extract, hs]
    congr 1
    rw [List.take_of_length_le (by rw [List.length_drop, hlen, hsz]; decide)]
    rfl
  · rw [if_neg h]
    have hb : (decide (n ≥ 1) && decide (n ≤ 999999)) = false := by
      simp only [Bool.and_eq_false_iff, decide_eq_false_iff_not]; omega
    rw [hb]
    exact ⟨_, rfl, bl_bs _⟩

/-- The generation that a path names. -/
def genOf (l : List Int) : Option Int := match numL (l.drop 4) 6 with
  | some n => if n ≥ 1 ∧ l.length = 10 then some n else none
  | none => none

/-- The reference asks whether the path is the generation's own. -/
theorem gen_iff {l : List Int} (hp : l.take 4 = genP) (hl : 4 ≤ l.length) {n : Int} (h : numL (l.drop 4) 6 = some n) :
    (if 1 ≤ n ∧ n ≤ 999999 then genP ++ (decL (1000000 + n.toNat)).drop 1 else []) = l ↔ (n ≥ 1 ∧ l.length = 10) := by
  unfold numL at h
  split at h
  · cases h
  · rename_i hc
    cases h
    have hc1 : 1 ≤ (l.drop 4).length := by omega
    have hc2 : (l.drop 4).length ≤ 6 := by omega
    have hd : ∀ c ∈ l.drop 4, digB c = true := Classical.byContradiction fun h => hc (.inr (.inr h))
    have hb := val_bound hd
    have hle : val (l.drop 4) ≤ 999999 := by
      have : (10 : Nat) ^ (l.drop 4).length ≤ 10 ^ 6 := Nat.pow_le_pow_right (by omega) hc2
      have e : (((10 : Nat) ^ (l.drop 4).length : Nat) : Int) = (10 : Int) ^ (l.drop 4).length := by simp
      omega
    have hll : l.length = 4 + (l.drop 4).length := by simp; omega
    by_cases hn : 1 ≤ val (l.drop 4)
    · rw [if_pos ⟨hn, hle⟩]
      constructor
      · intro e
        refine ⟨hn, ?_⟩
        rw [← e, List.length_append, List.length_drop, decL_length 6 _ (by omega) (by omega)]
        rfl
      · rintro ⟨_, h10⟩
        have h6 : (l.drop 4).length = 6 := by omega
        have key := decL_val hd
        rw [h6, show (10 : Nat) ^ 6 = 1000000 from rfl] at key
        rw [key, ← hp]
        simp
    · rw [if_neg (by omega)]
      constructor
      · intro e
        rw [← e] at hll
        simp at hll
      · rintro ⟨h', _⟩; omega

theorem begins_bl {s p : ByteArray} (h : begins s p = true) : (bl s).take (bl p).length = bl p ∧ (bl p).length ≤ (bl s).length := by
  unfold begins at h
  simp only [Bool.and_eq_true, decide_eq_true_eq] at h
  have := seq_iff.1 h.2
  refine ⟨?_, by rw [bl_length, bl_length]; exact h.1⟩
  have e := congrArg bl this
  rw [bl_extract] at e
  simpa [bl_length] using e

theorem pathsOf_mem {fs : List File} {p : ByteArray} : ∀ s ∈ pathsOf fs p, begins s p = true := by
  intro s hs
  unfold pathsOf at hs
  obtain ⟨f, hf, rfl⟩ := List.mem_map.1 hs
  exact (List.mem_filter.1 hf).2

def gensL (fs : List File) : List Int := (pathsOf fs (bs [103, 101, 110, 47])).filterMap (fun p => genOf (bl p))

theorem gens_prefix {ps : List ByteArray} (h : ∀ s ∈ ps, begins s (bs [103, 101, 110, 47]) = true) {i : Nat} (hi : i < ps.length) : (bl ps[i]).take 4 = genP ∧ 4 ≤ (bl ps[i]).length := by
  have := begins_bl (h _ (List.getElem_mem hi))
  rw [bl_gen] at this
  exact this

theorem ssub_tail {s : ByteArray} {k : Nat} (h : k ≤ s.size) : ∃ t, ssub s (k : Int) (s.size : Int) = some t ∧ bl t = (bl s).drop k := by
  unfold ssub
  rw [if_pos (by omega)]
  refine ⟨_, rfl, ?_⟩
  rw [bl_extract]
  simp only [Int.toNat_natCast]
  rw [List.take_of_length_le (by rw [List.length_drop, bl_length]; exact Nat.le_refl _)]

theorem fm_len {f : ByteArray → Option Int} : ∀ (l : List ByteArray), (l.filterMap f).length ≤ l.length := fun l => List.length_filterMap_le f l

theorem l8Gens_eq (d : Disk) (h : d.Files.length ≤ 1048576) : spec_l8Gens d = some (gensL d.Files) := by
  unfold spec_l8Gens gensL
  rw [l7Paths_eq d _ h]
  simp only [Option.bind_some]
  have hm := pathsOf_mem (fs := d.Files) (p := bs [103, 101, 110, 47])
  have hlen := pathsOf_length d.Files (bs [103, 101, 110, 47])
  generalize pathsOf d.Files (bs [103, 101, 110, 47]) = ps at *
  obtain ⟨t, e, rfl⟩ := loop_up (b := spec_l8Gens_l1b d ps) (fun i s => s = ((ps.take i).filterMap (fun p => genOf (bl p)), (i : Int))) ps.length (fun t => t = ps.filterMap (fun p => genOf (bl p))) (by
    rintro i s hi rfl
    obtain ⟨hp, h4⟩ := gens_prefix hm hi
    have hsz : 4 ≤ ps[i].size := by rw [← bl_length]; exact h4
    obtain ⟨u, hu, hub⟩ := ssub_tail (s := ps[i]) (k := 4) hsz
    have hu' : ssub ps[i] 4 (ps[i].size : Int) = some u := hu
    have hfl := fm_len (f := fun p => genOf (bl p)) (ps.take i)
    have hil : (ps.take i).length ≤ i := by simp; omega
    have ha : ∀ x : Int, app 8 ((ps.take i).filterMap (fun p => genOf (bl p))) [x] = some ((ps.take i).filterMap (fun p => genOf (bl p)) ++ [x]) := fun x => app_of (by simp; omega) (by simp; omega)
    have hsplit : (ps.take (i + 1)).filterMap (fun p => genOf (bl p)) = (ps.take i).filterMap (fun p => genOf (bl p)) ++ [ps[i]].filterMap (fun p => genOf (bl p)) := by
      rw [List.take_succ_eq_append_getElem hi, List.filterMap_append]
    unfold spec_l8Gens_l1b
    rw [if_pos (by simp; omega)]
    simp only [idx_nat hi, Option.bind_some, hu', l1Number_eq u 6 (by omega), hub, w64_nat (show i < 9223372036854775807 by omega)]
    left
    cases hn : numL ((bl ps[i]).drop 4) 6 with
    | none =>
      refine ⟨_, rfl, ?_⟩
      rw [hsplit]
      simp [genOf, hn]
    | some n =>
      obtain ⟨g, hg, hgb⟩ := GenPath_eq n
      have hiff := gen_iff hp h4 hn
      rw [← hgb] at hiff
      simp only [if_true, hg, Option.bind_some]
      rw [seq_bl]
      by_cases hc : n ≥ 1 ∧ (bl ps[i]).length = 10
      · rw [decide_eq_true (hiff.2 hc)]
        simp only [Option.bind_some, if_true, ha]
        refine ⟨_, rfl, ?_⟩
        rw [hsplit]
        simp [genOf, hn, hc]
      · rw [decide_eq_false (fun e => hc (hiff.1 e))]
        refine ⟨_, rfl, ?_⟩
        rw [hsplit]
        simp only [List.filterMap_cons, genOf, hn, if_neg hc, List.filterMap_nil, List.append_nil]) (by
    rintro s rfl
    unfold spec_l8Gens_l1b
    rw [if_neg (by simp)]
    exact ⟨_, rfl, by simp⟩) ps.length 0 ([], 0) (by omega) (by simp)
  simp only [spec_l8Gens_l1, e, Option.bind_some]

theorem gens_eq (d : Disk) (h : d.Files.length ≤ 1048576) : impl_Disk_gens d = some (gensL d.Files) := by
  unfold impl_Disk_gens gensL
  rw [paths_same, l7Paths_eq d _ h]
  simp only [Option.bind_some]
  have hm := pathsOf_mem (fs := d.Files) (p := bs [103, 101, 110, 47])
  have hlen := pathsOf_length d.Files (bs [103, 101, 110, 47])
  generalize pathsOf d.Files (bs [103, 101, 110, 47]) = ps at *
  obtain ⟨t, e, rfl⟩ := loop_up (b := impl_Disk_gens_l1b ps) (fun i s => s = ((ps.take i).filterMap (fun p => genOf (bl p)), (i : Int))) ps.length (fun t => t = ps.filterMap (fun p => genOf (bl p))) (by
    rintro i s hi rfl
    obtain ⟨hp, h4⟩ := gens_prefix hm hi
    have hsz : 4 ≤ ps[i].size := by rw [← bl_length]; exact h4
    obtain ⟨u, hu, hub⟩ := ssub_tail (s := ps[i]) (k := 4) hsz
    have hu' : ssub ps[i] 4 (ps[i].size : Int) = some u := hu
    have hfl := fm_len (f := fun p => genOf (bl p)) (ps.take i)
    have hil : (ps.take i).length ≤ i := by simp; omega
    have ha : ∀ x : Int, app 8 ((ps.take i).filterMap (fun p => genOf (bl p))) [x] = some ((ps.take i).filterMap (fun p => genOf (bl p)) ++ [x]) := fun x => app_of (by simp; omega) (by simp; omega)
    have hsplit : (ps.take (i + 1)).filterMap (fun p => genOf (bl p)) = (ps.take i).filterMap (fun p => genOf (bl p)) ++ [ps[i]].filterMap (fun p => genOf (bl p)) := by
      rw [List.take_succ_eq_append_getElem hi, List.filterMap_append]
    unfold impl_Disk_gens_l1b
    rw [if_pos (by simp; omega)]
    simp only [idx_nat hi, Option.bind_some, hu', number_eq u 6 (by omega), hub, w64_nat (show i < 9223372036854775807 by omega)]
    left
    cases hn : numL ((bl ps[i]).drop 4) 6 with
    | none =>
      refine ⟨_, rfl, ?_⟩
      rw [hsplit]
      simp [genOf, hn]
    | some n =>
      have hbl : ((ps[i].size : Int) == 10) = decide ((bl ps[i]).length = 10) := by
        rw [bl_length, Bool.eq_iff_iff]; simp; omega
      simp only [hbl]
      by_cases h1 : n ≥ 1
      · rw [if_pos (by simpa using h1)]
        by_cases h2 : (bl ps[i]).length = 10
        · rw [decide_eq_true h2]
          simp only [Option.bind_some, if_true, ha]
          refine ⟨_, rfl, ?_⟩
          rw [hsplit]
          simp [genOf, hn, h1, h2]
        · rw [decide_eq_false h2]
          refine ⟨_, rfl, ?_⟩
          rw [hsplit]
          simp [genOf, hn, h2]
      · rw [if_neg (by simpa using h1)]
        refine ⟨_, rfl, ?_⟩
        rw [hsplit]
        simp only [List.filterMap_cons, genOf, hn, if_neg (fun h' : n ≥ 1 ∧ (bl ps[i]).length = 10 => h1 h'.1), List.filterMap_nil, List.append_nil]) (by
    rintro s rfl
    unfold impl_Disk_gens_l1b
    rw [if_neg (by simp)]
    exact ⟨_, rfl, by simp⟩) ps.length 0 ([], 0) (by omega) (by simp)
  simp only [impl_Disk_gens_l1, e, Option.bind_some]

theorem gensL_length (fs : List File) : (gensL fs).length ≤ fs.length := by
  unfold gensL
  have h1 := fm_len (f := fun p => genOf (bl p)) (pathsOf fs (bs [103, 101, 110, 47]))
  have h2 := pathsOf_length fs (bs [103, 101, 110, 47])
  omega

theorem bl_b2s {l : List Int} (h : ∀ c ∈ l, 0 ≤ c ∧ c ≤ 255) : bl (b2s l) = l := by
  refine (list_rev (P := fun l => (∀ c ∈ l, 0 ≤ c ∧ c ≤ 255) → bl (b2s l) = l) ?_ ?_ l) h
  · intro _; exact bl_bs []
  · intro l c ih h
    have e : b2s (l ++ [c]) = b2s l ++ b2s [c] := by
      unfold b2s
      rw [List.foldl_append]
      generalize List.foldl (fun r n => ByteArray.push r (UInt8.ofNat n.toNat)) ByteArray.empty l = x
      simp only [List.foldl_cons, List.foldl_nil]
      generalize UInt8.ofNat c.toNat = u
      apply toList_inj
      rw [ByteArray.toList_eq, ByteArray.toList_eq]
      simp
    rw [e, bl_append, ih (fun x hx => h x (by simp [hx])), bl_b2s1 (h c (by simp)).1 (h c (by simp)).2]

theorem l1Has_eq (l : List Int) (v : Int) (h : l.length ≤ 1048576) : spec_l1Has l v = some (decide (v ∈ l)) := by
  obtain ⟨t, e, ht⟩ := loop_up (b := spec_l1Has_l1b l v) (fun i s => s = (i : Int) ∧ v ∉ l.take i) l.length (fun t => match t with | .ret r => r = true ∧ v ∈ l | .nxt _ => v ∉ l) (by
    rintro i s hi ⟨rfl, hv⟩
    unfold spec_l1Has_l1b
    rw [if_pos (by simp; omega)]
    simp only [idx_nat hi, Option.bind_some]
    by_cases hc : l[i] = v
    · rw [if_pos (by simpa using hc)]
      exact .inr ⟨_, rfl, rfl, hc ▸ List.getElem_mem hi⟩
    · rw [if_neg (by simpa using hc), w64_nat (by omega)]
      refine .inl ⟨_, rfl, rfl, ?_⟩
      rw [List.take_succ_eq_append_getElem hi]
      simp only [List.mem_append, List.mem_singleton, not_or]
      exact ⟨hv, fun e => hc e.symm⟩) (by
    rintro s ⟨rfl, hv⟩
    unfold spec_l1Has_l1b
    rw [if_neg (by simp)]
    rw [List.take_length] at hv
    exact ⟨_, rfl, hv⟩) l.length 0 0 (by omega) ⟨rfl, by simp⟩
  unfold spec_l1Has
  rw [show spec_l1Has_l1 l v 0 = some t from e]
  cases t with
  | ret r => obtain ⟨rfl, hm⟩ := ht; simp [Fl.go, hm]
  | nxt _ => simp only [Fl.go, Option.bind_some]; rw [decide_eq_false ht]

theorem Index_eq (l : List Int) (v : Int) (h : l.length ≤ 1048576) : slices_Contains_Lint64 l v = some (decide (v ∈ l)) := by
  obtain ⟨t, e, ht⟩ := loop_up (b := slices_Index_Lint64_l1b l v) (fun i s => s = (i : Int) ∧ v ∉ l.take i) l.length (fun t => match t with | .ret r => 0 ≤ r ∧ v ∈ l | .nxt _ => v ∉ l) (by
    rintro i s hi ⟨rfl, hv⟩
    unfold slices_Index_Lint64_l1b
    rw [if_pos (by simp; omega)]
    simp only [idx_nat hi, Option.bind_some]
    by_cases hc : v = l[i]
    · rw [if_pos (by simpa using hc)]
      exact .inr ⟨_, rfl, by omega, hc ▸ List.getElem_mem hi⟩
    · rw [if_neg (by simpa using hc), w64_nat (by omega)]
      refine .inl ⟨_, rfl, rfl, ?_⟩
      rw [List.take_succ_eq_append_getElem hi]
      simp only [List.mem_append, List.mem_singleton, not_or]
      exact ⟨hv, hc⟩) (by
    rintro s ⟨rfl, hv⟩
    unfold slices_Index_Lint64_l1b
    rw [if_neg (by simp)]
    rw [List.take_length] at hv
    exact ⟨_, rfl, hv⟩) l.length 0 0 (by omega) ⟨rfl, by simp⟩
  unfold slices_Contains_Lint64 slices_Index_Lint64
  rw [show slices_Index_Lint64_l1 l v 0 = some t from e]
  cases t with
  | ret r => obtain ⟨h0, hm⟩ := ht; simp [Fl.go, hm, h0]
  | nxt _ => simp only [Fl.go, Option.bind_some]; rw [decide_eq_false ht]; rfl

theorem find_of {fs : List File} {p : ByteArray} {k : Nat} (hs : fs.Pairwise (fun f g => slt f.Path g.Path = true)) (hk : k < fs.length) (hp : fs[k].Path = p) : fs.find? (fun f => decide (f.Path = p)) = some fs[k] := by
  rw [List.find?_eq_some_iff_getElem]
  refine ⟨by simp [hp], k, hk, rfl, fun j hj => ?_⟩
  simp only [Bool.not_eq_eq_eq_not, Bool.not_true, decide_eq_false_iff_not]
  intro e
  have := sorted_inj hs (by omega) hk (e.trans hp.symm)
  omega

theorem find_none {fs : List File} {p : ByteArray} (h : ∀ f ∈ fs, f.Path ≠ p) : fs.find? (fun f => decide (f.Path = p)) = none := by
  rw [List.find?_eq_none]
  intro f hf
  simpa using h f hf

/-! ### Names, versions, terms -/
def letB (c : Int) : Bool := decide (97 ≤ c) && decide (c ≤ 122)

def digitB (c : Int) : Bool := decide (48 ≤ c) && decide (c ≤ 57)

def namB (c : Int) : Bool := letB c || (digitB c || c == 95)

theorem l1Letter_eq (c : Int) : spec_l1Letter c = some (letB c) := by
  unfold spec_l1Letter letB
  by_cases h : c ≥ 97 <;> simp [h]

theorem l1Digit_eq (c : Int) : spec_l1Digit c = some (digitB c) := by
  unfold spec_l1Digit digitB
  by_cases h : c ≥ 48 <;> simp [h]

theorem l1Name_eq (c : Int) : spec_l1Name c = some (namB c) := by
  unfold spec_l1Name namB
  simp only [l1Letter_eq, l1Digit_eq, Option.bind_some]
  cases letB c <;> cases digitB c <;> simp

theorem isNameByte_eq (c : Int) : impl_isNameByte c = some (namB c) := by
  unfold impl_isNameByte namB letB digitB
  by_cases h1 : c ≥ 97 <;> by_cases h2 : c ≤ 122 <;> by_cases h3 : c ≥ 48 <;> by_cases h4 : c ≤ 57 <;> simp [h1, h2, h3, h4]

def nameScan (s : ByteArray) : Int := (scanL (fun _ c => if namB c then none else some (5 : Int)) 0 (bl s)).getD 0

/-- What is wrong with a name. -/
def NF (s : ByteArray) : Int := if s.size < 1 then 5 else if s.size > 12 then 5 else if letB ((bl s).headD 0) then nameScan s else 5

theorem bl_head {s : ByteArray} (h : 1 ≤ s.size) : bidx s 0 = some ((bl s).headD 0) := by
  have h' : 0 < (bl s).length := by rw [bl_length]; exact h
  have e := bidx_nat (s := s) (i := 0) h'
  rw [show ((0 : Nat) : Int) = 0 from rfl] at e
  rw [e]
  have : (bl s)[0]? = some ((bl s).headD 0) := by
    cases hb : bl s with
    | nil => rw [hb] at h'; simp at h'
    | cons c l => rfl
  rw [List.getElem?_eq_getElem h'] at this
  exact this

theorem spec_nameLoop (s : ByteArray) (h : s.size ≤ 12) : spec_NameFault_l1 s 0 = some (frs (scanL (fun _ c => if namB c then none else some (5 : Int)) 0 (bl s))) := by
  unfold spec_NameFault_l1
  refine loop_scan (bl s) _ (fun i hi => ?_) ?_
  · have hs : i < s.size := by rw [← bl_length]; exact hi
    unfold spec_NameFault_l1b
    rw [if_pos (by simp; omega), bidx_nat hi]
    simp only [Option.bind_some, l1Name_eq]
    rw [w64_nat (by omega)]
    cases namB (bl s)[i] <;> rfl
  · unfold spec_NameFault_l1b
    rw [if_neg (by rw [bl_length]; simp)]

theorem impl_nameLoop (s : ByteArray) (h : s.size ≤ 12) : impl_NameFault_l1 s 0 = some (frs (scanL (fun _ c => if namB c then none else some (5 : Int)) 0 (bl s))) := by
  unfold impl_NameFault_l1
  refine loop_scan (bl s) _ (fun i hi => ?_) ?_
  · have hs : i < s.size := by rw [← bl_length]; exact hi
    unfold impl_NameFault_l1b
    rw [if_pos (by simp; omega), bidx_nat hi]
    simp only [Option.bind_some, isNameByte_eq]
    rw [w64_nat (by omega)]
    cases namB (bl s)[i] <;> rfl
  · unfold impl_NameFault_l1b
    rw [if_neg (by rw [bl_length]; simp)]

theorem NameFault_spec (s : ByteArray) : spec_NameFault s = some (NF s) := by
  unfold spec_NameFault NF
  by_cases h1 : s.size < 1
  · rw [if_pos (show decide ((s.size : Int) < 1) = true by rw [decide_eq_true_eq]; omega), if_pos h1]; rfl
  rw [if_neg (show ¬ decide ((s.size : Int) < 1) = true by rw [decide_eq_true_eq]; omega), if_neg h1]
  by_cases h2 : s.size > 12
  · rw [if_pos (show decide ((s.size : Int) > 12) = true by rw [decide_eq_true_eq]; omega), if_pos h2]; rfl
  rw [if_neg (show ¬ decide ((s.size : Int) > 12) = true by rw [decide_eq_true_eq]; omega), if_neg h2, bl_head (by omega), spec_nameLoop s (by omega)]
  simp only [Option.bind_some, l1Letter_eq]
  cases h3 : letB ((bl s).headD 0)
  · rfl
  · unfold nameScan
    cases scanL (fun _ c => if namB c then none else some (5 : Int)) 0 (bl s) <;> rfl

theorem headTest (c : Int) : (if decide (c < 97) = true then some true else some (decide (c > 122))) = some (!(letB c)) := by
  unfold letB
  by_cases h3 : c < 97
  · rw [if_pos (by rw [decide_eq_true_eq]; exact h3)]
    have : decide (97 ≤ c) = false := by rw [decide_eq_false_iff_not]; omega
    rw [this]; rfl
  · rw [if_neg (by rw [decide_eq_true_eq]; exact h3)]
    have : decide (97 ≤ c) = true := by rw [decide_eq_true_eq]; omega
    rw [this]
    congr 1
    rw [Bool.true_and, Bool.eq_iff_iff]
    simp

theorem NameFault_impl (s : ByteArray) : impl_NameFault s = some (NF s) := by
  unfold impl_NameFault NF
  by_cases h1 : s.size < 1
  · rw [if_pos (show decide ((s.size : Int) < 1) = true by rw [decide_eq_true_eq]; omega), if_pos h1]; rfl
  rw [if_neg (show ¬ decide ((s.size : Int) < 1) = true by rw [decide_eq_true_eq]; omega), if_neg h1]
  by_cases h2 : s.size > 12
  · rw [if_pos (show decide ((s.size : Int) > 12) = true by rw [decide_eq_true_eq]; omega), if_pos h2]; rfl
  rw [if_neg (show ¬ decide ((s.size : Int) > 12) = true by rw [decide_eq_true_eq]; omega), if_neg h2, bl_head (by omega), impl_nameLoop s (by omega)]
  simp only [Option.bind_some, headTest]
  cases h3 : letB ((bl s).headD 0)
  · rfl
  · unfold nameScan
    cases scanL (fun _ c => if namB c then none else some (5 : Int)) 0 (bl s) <;> rfl

/-- What is wrong with a version. -/
def VF (v : Version) : Int := if inB v.A 0 999 && inB v.B 0 999 && inB v.C 0 999 then 0 else 3

theorem VersionFault_spec (v : Version) : spec_VersionFault v = some (VF v) := by
  unfold spec_VersionFault VF
  simp only [l1In_eq, Option.bind_some]
  cases inB v.A 0 999 <;> cases inB v.B 0 999 <;> cases inB v.C 0 999 <;> rfl

theorem VersionFault_impl (v : Version) : impl_VersionFault v = some (VF v) := by
  unfold impl_VersionFault VF
  simp only [within_eq, Option.bind_some]
  cases inB v.A 0 999 <;> cases inB v.B 0 999 <;> cases inB v.C 0 999 <;> rfl

def sgn (a b : Int) : Int := if a < b then -1 else if a > b then 1 else 0

theorem l1Sign_eq (a b : Int) : spec_l1Sign a b = some (sgn a b) := by
  unfold spec_l1Sign sgn
  by_cases h : a < b
  · simp [h]
  · by_cases h2 : a > b <;> simp [h, h2]

theorem cmp_eq (a b : Int) : cmp_Compare_int64 a b = some (sgn a b) := by
  unfold cmp_Compare_int64 cmp_isNaN_int64 sgn
  simp only [Option.bind_some, bne_self_eq_false, Bool.false_eq_true, if_false]
  by_cases h : a < b
  · simp [h]
  · by_cases h2 : a > b <;> simp [h, h2]

/-- Versions in order. -/
def cmpV (a b : Version) : Int := if sgn a.A b.A ≠ 0 then sgn a.A b.A else if sgn a.B b.B ≠ 0 then sgn a.B b.B else sgn a.C b.C

theorem CompareVersions_spec (a b : Version) : spec_CompareVersions a b = some (cmpV a b) := by
  unfold spec_CompareVersions cmpV
  simp only [l1Sign_eq, Option.bind_some]
  by_cases h1 : sgn a.A b.A = 0
  · by_cases h2 : sgn a.B b.B = 0 <;> simp [h1, h2]
  · simp [h1]

theorem firstOf (l : List Int) (h : l.length ≤ 10) : loop (cmp_Or_int_l1b l) 0 = some (frs (scanL (fun _ c => if c != 0 then some c else none) 0 l)) := by
  refine loop_scan l _ (fun i hi => ?_) ?_
  · unfold cmp_Or_int_l1b
    rw [if_pos (by simp; omega), idx_nat hi]
    simp only [Option.bind_some]
    rw [w64_nat (by omega)]
    cases l[i] != 0 <;> rfl
  · unfold cmp_Or_int_l1b
    rw [if_neg (by simp)]

theorem compare_impl (a b : Version) : impl_compare a b = some (cmpV a b) := by
  unfold impl_compare cmpV cmp_Or_int cmp_Or_int_l1
  simp only [cmp_eq, Option.bind_some]
  rw [firstOf _ (by simp), frs_go]
  by_cases h1 : sgn a.A b.A = 0
  · by_cases h2 : sgn a.B b.B = 0
    · by_cases h3 : sgn a.C b.C = 0 <;> simp [h1, h2, h3, scanL]
    · simp [h1, h2, scanL]
  · simp [h1, scanL]

/-- Two versions are the same. -/
def eqV (a b : Version) : Bool := a.A == b.A && (a.B == b.B && (a.C == b.C && true))

theorem cmpV_zero (a b : Version) : (cmpV a b == 0) = eqV a b := by
  unfold cmpV eqV sgn
  rw [Bool.eq_iff_iff]
  simp only [beq_iff_eq, Bool.and_eq_true, Bool.and_true]
  constructor
  · intro h
    split at h <;> omega
  · intro ⟨h1, h2, h3⟩
    split <;> omega

def topV : Version := { A := 1000, B := 0, C := 0 }

/-- What is wrong with a term. -/
def TF (t : Term) : Int := if NF t.Name ≠ 0 then NF t.Name else if VF t.Low ≠ 0 then VF t.Low else
  if eqV t.High topV = false ∧ VF t.High ≠ 0 then 3 else if cmpV t.Low t.High ≥ 0 then 1 else 0

theorem TermFault_spec (t : Term) : spec_TermFault t = some (TF t) := by
  unfold spec_TermFault TF spec_l1Top
  simp only [NameFault_spec, VersionFault_spec, CompareVersions_spec, Option.bind_some]
  show (if (NF t.Name != 0) = true then some (NF t.Name) else if (VF t.Low != 0) = true then some (VF t.Low) else (if (!(eqV t.High topV)) = true then some (VF t.High != 0) else some false).bind fun v => if v = true then some 3 else if decide (cmpV t.Low t.High ≥ 0) = true then some 1 else some 0) = _
  generalize NF t.Name = a
  generalize VF t.Low = b
  generalize eqV t.High topV = c
  generalize VF t.High = d
  generalize cmpV t.Low t.High = e
  by_cases h1 : a = 0
  · by_cases h2 : b = 0
    · by_cases h4 : d = 0 <;> by_cases h5 : e ≥ 0 <;> cases c <;> simp [h1, h2, h4, h5]
    · simp [h1, h2]
  · simp [h1]

theorem TermFault_impl (t : Term) : impl_TermFault t = some (TF t) := by
  unfold impl_TermFault TF impl_top
  simp only [NameFault_impl, VersionFault_impl, compare_impl, Option.bind_some]
  show (if (NF t.Name != 0) = true then some (NF t.Name) else if (VF t.Low != 0) = true then some (VF t.Low) else (if (!(eqV t.High topV)) = true then some (VF t.High != 0) else some false).bind fun v => if v = true then some 3 else if decide (cmpV t.Low t.High ≥ 0) = true then some 1 else some 0) = _
  generalize NF t.Name = a
  generalize VF t.Low = b
  generalize eqV t.High topV = c
  generalize VF t.High = d
  generalize cmpV t.Low t.High = e
  by_cases h1 : a = 0
  · by_cases h2 : b = 0
    · by_cases h4 : d = 0 <;> by_cases h5 : e ≥ 0 <;> cases c <;> simp [h1, h2, h4, h5]
    · simp [h1, h2]
  · simp [h1]

/-- The first fault of terms. -/
def tsF (l : List Term) : Int := (scanL (fun _ t => if TF t != 0 then some (TF t) else none) 0 l).getD 0

theorem l2Terms_spec (l : List Term) (h : l.length ≤ 1048576) : spec_l2Terms l = some (tsF l) := by
  have key := loop_scan l (fun _ t => if TF t != 0 then some (TF t) else none) (b := spec_l2Terms_l1b l) (by
    intro i hi
    unfold spec_l2Terms_l1b
    rw [if_pos (by simp; omega), idx_nat hi]
    simp only [Option.bind_some, TermFault_spec]
    rw [w64_nat (by omega)]
    cases TF l[i] != 0 <;> rfl) (by
    unfold spec_l2Terms_l1b
    rw [if_neg (by simp)])
  unfold spec_l2Terms spec_l2Terms_l1 tsF
  rw [key, frs_go]
  cases scanL (fun _ t => if TF t != 0 then some (TF t) else none) 0 l <;> rfl

theorem termsFault_impl (l : List Term) (h : l.length ≤ 1048576) : impl_termsFault l = some (tsF l) := by
  have key := loop_scan l (fun _ t => if TF t != 0 then some (TF t) else none) (b := impl_termsFault_l1b l) (by
    intro i hi
    unfold impl_termsFault_l1b
    rw [if_pos (by simp; omega), idx_nat hi]
    simp only [Option.bind_some, TermFault_impl]
    rw [w64_nat (by omega)]
    cases TF l[i] != 0 <;> rfl) (by
    unfold impl_termsFault_l1b
    rw [if_neg (by simp)])
  unfold impl_termsFault impl_termsFault_l1 tsF
  rw [key, frs_go]
  cases scanL (fun _ t => if TF t != 0 then some (TF t) else none) 0 l <;> rfl

/-! ### The text of a term -/
def zeroV : Version := { A := 0, B := 0, C := 0 }

/-! ### Packages, catalogs, sets -/
theorem seq_comm (a b : ByteArray) : seq a b = seq b a := by
  unfold seq
  rw [Bool.eq_iff_iff]
  simp only [beq_iff_eq]
  exact eq_comm

theorem take_sub {α : Type} {xs : List α} {i : Nat} (h : i ≤ xs.length) : lsub xs 0 (i : Int) = some (xs.take i) := by
  have := lsub_of (xs := xs) (l := 0) (h := i) (by omega) h
  rw [show ((0 : Nat) : Int) = 0 from rfl] at this
  rw [this]
  simp

theorem holds_spec (l : List ByteArray) (n : ByteArray) (h : l.length ≤ 1048576) : spec_l2Holds l n = some (l.any fun x => seq x n) := by
  have key := loop_scan l (fun _ x => if seq x n then some true else none) (b := spec_l2Holds_l1b l n) (by
    intro i hi
    unfold spec_l2Holds_l1b
    rw [if_pos (by simp; omega), idx_nat hi]
    simp only [Option.bind_some]
    rw [w64_nat (by omega)]
    cases seq l[i] n <;> rfl) (by
    unfold spec_l2Holds_l1b
    rw [if_neg (by simp)])
  unfold spec_l2Holds spec_l2Holds_l1
  rw [key, frs_go, ← scan_bool (fun x => seq x n) l 0]
  cases scanL (fun _ x => if seq x n then some true else none) 0 l <;> rfl

theorem contains_impl (l : List ByteArray) (n : ByteArray) (h : l.length ≤ 1048576) : slices_Contains_Lstring l n = some (l.any fun x => seq x n) := by
  have key := loop_scan l (fun i x => if seq x n then some (i : Int) else none) (b := slices_Index_Lstring_l1b l n) (by
    intro i hi
    unfold slices_Index_Lstring_l1b
    rw [if_pos (by simp; omega), idx_nat hi]
    simp only [Option.bind_some]
    rw [w64_nat (by omega), seq_comm n]
    cases seq l[i] n <;> rfl) (by
    unfold slices_Index_Lstring_l1b
    rw [if_neg (by simp)])
  unfold slices_Contains_Lstring slices_Index_Lstring slices_Index_Lstring_l1
  rw [key, frs_go]
  rw [← place_ge (scan_place (fun x => seq x n) l 0)]
  cases scanL (fun j x => if seq x n then some (j : Int) else none) 0 l <;> rfl

def provG (p : Pack) (i : Nat) (n : ByteArray) : Option Int := if NF n != 0 then some (NF n) else if seq n p.Name || (p.Provides.take i).any (fun x => seq x n) then some 6 else none

def needG (_ : Nat) (l : List Term) : Option Int := if (l.length : Int) == 0 then some 1 else if tsF l != 0 then some (tsF l) else none

def manyB (p : Pack) : Bool := decide ((p.Provides.length : Int) > 4) || (decide ((p.Needs.length : Int) > 4) || (decide ((p.Bars.length : Int) > 4) || p.Needs.any (fun l => decide ((l.length : Int) > 4))))

/-- What the lists of a package are worth. -/
def listsF (p : Pack) : Int := match scanL (provG p) 0 p.Provides with
  | some r => r
  | none => match scanL needG 0 p.Needs with
    | some r => r
    | none => tsF p.Bars

/-- What is wrong with a package. -/
def PF (p : Pack) : Int := if NF p.Name != 0 then NF p.Name else if VF p.Version != 0 then VF p.Version else if !(inB p.Size 1 200) then 3 else if manyB p then 2 else listsF p

theorem PackFault_lists (p : Pack) (hp : Pack.sm 1048576 p) : ((spec_PackFault_l2 p 0).bind (Fl.go some fun v60 => (spec_PackFault_l3 p 0).bind (Fl.go some fun v80 => (spec_l2Terms p.Bars).bind fun x81 => some x81))) = some (listsF p) := by
  obtain ⟨_, _, _, hpr, hne, hba⟩ := hp
  have k2 := loop_scan p.Provides (provG p) (b := spec_PackFault_l2b p) (by
    intro i hi
    unfold spec_PackFault_l2b provG
    rw [if_pos (by simp; omega), idx_nat hi]
    simp only [Option.bind_some, NameFault_spec]
    rw [take_sub (by omega)]
    simp only [Option.bind_some]
    rw [holds_spec _ _ (by simp; omega), w64_nat (by omega)]
    simp only [Option.bind_some]
    cases NF p.Provides[i] != 0 <;> cases seq p.Provides[i] p.Name <;> cases (p.Provides.take i).any (fun x => seq x p.Provides[i]) <;> rfl) (by
    unfold spec_PackFault_l2b
    rw [if_neg (by simp)])
  have k3 := loop_scan p.Needs needG (b := spec_PackFault_l3b p) (by
    intro i hi
    unfold spec_PackFault_l3b needG
    rw [if_pos (by simp; omega), idx_nat hi]
    simp only [Option.bind_some]
    rw [l2Terms_spec _ (hne.2 _ (List.getElem_mem hi)).1, w64_nat (by omega)]
    simp only [Option.bind_some]
    cases (p.Needs[i].length : Int) == 0 <;> cases tsF p.Needs[i] != 0 <;> rfl) (by
    unfold spec_PackFault_l3b
    rw [if_neg (by simp)])
  unfold spec_PackFault_l2 spec_PackFault_l3 listsF
  rw [k2, k3, l2Terms_spec _ hba.1]
  cases scanL (provG p) 0 p.Provides <;> cases scanL needG 0 p.Needs <;> rfl

theorem PackFault_listsI (p : Pack) (hp : Pack.sm 1048576 p) : ((impl_PackFault_l1 p 0).bind (Fl.go some fun v46 => (impl_PackFault_l2 p 0).bind (Fl.go some fun v62 => (impl_termsFault p.Bars).bind fun x63 => some x63))) = some (listsF p) := by
  obtain ⟨_, _, _, hpr, hne, hba⟩ := hp
  have k2 := loop_scan p.Provides (provG p) (b := impl_PackFault_l1b p) (by
    intro i hi
    unfold impl_PackFault_l1b provG
    rw [if_pos (by simp; omega), idx_nat hi]
    simp only [Option.bind_some, NameFault_impl]
    rw [take_sub (by omega)]
    simp only [Option.bind_some]
    rw [contains_impl _ _ (by simp; omega), w64_nat (by omega)]
    simp only [Option.bind_some]
    cases NF p.Provides[i] != 0 <;> cases seq p.Provides[i] p.Name <;> cases (p.Provides.take i).any (fun x => seq x p.Provides[i]) <;> rfl) (by
    unfold impl_PackFault_l1b
    rw [if_neg (by simp)])
  have k3 := loop_scan p.Needs needG (b := impl_PackFault_l2b p) (by
    intro i hi
    unfold impl_PackFault_l2b needG
    rw [if_pos (by simp; omega), idx_nat hi]
    simp only [Option.bind_some]
    rw [termsFault_impl _ (hne.2 _ (List.getElem_mem hi)).1, w64_nat (by omega)]
    simp only [Option.bind_some]
    cases (p.Needs[i].length : Int) == 0 <;> cases tsF p.Needs[i] != 0 <;> rfl) (by
    unfold impl_PackFault_l2b
    rw [if_neg (by simp)])
  unfold impl_PackFault_l1 impl_PackFault_l2 listsF
  rw [k2, k3, termsFault_impl _ hba.1]
  cases scanL (provG p) 0 p.Provides <;> cases scanL needG 0 p.Needs <;> rfl

theorem scan_const {α R : Type} (p : α → Bool) (r : R) : ∀ (xs : List α) (i : Nat), scanL (fun _ x => if p x then some r else none) i xs = if xs.any p then some r else none
  | [], i => rfl
  | x :: xs, i => by
    simp only [scanL]
    cases h : p x
    · simp only [Bool.false_eq_true, if_false, List.any_cons, h, Bool.false_or]
      exact scan_const p r xs (i + 1)
    · simp [h]

theorem PackFault_spec (p : Pack) (hp : Pack.sm 1048576 p) : spec_PackFault p = some (PF p) := by
  have hl := PackFault_lists p hp
  obtain ⟨_, _, _, hpr, hne, hba⟩ := hp
  have k1 := loop_scan p.Needs (fun _ l => if decide ((l.length : Int) > 4) then some (2 : Int) else none) (b := spec_PackFault_l1b p) (by
    intro i hi
    unfold spec_PackFault_l1b
    rw [if_pos (by simp; omega), idx_nat hi]
    simp only [Option.bind_some]
    rw [w64_nat (by omega)]
    cases decide ((p.Needs[i].length : Int) > 4) <;> rfl) (by
    unfold spec_PackFault_l1b
    rw [if_neg (by simp)])
  rw [scan_const] at k1
  unfold spec_PackFault PF manyB
  simp only [NameFault_spec, VersionFault_spec, l1In_eq, Option.bind_some]
  rw [hl]
  unfold spec_PackFault_l1
  rw [k1]
  cases NF p.Name != 0 <;> cases VF p.Version != 0 <;> cases inB p.Size 1 200 <;> cases decide ((p.Provides.length : Int) > 4) <;> cases decide ((p.Needs.length : Int) > 4) <;> cases decide ((p.Bars.length : Int) > 4) <;> cases p.Needs.any (fun l => decide ((l.length : Int) > 4)) <;> rfl

theorem firstOf2 (l : List Int) (h : l.length ≤ 10) : loop (impl_firstCode_l1b l) 0 = some (frs (scanL (fun _ c => if c != 0 then some c else none) 0 l)) := by
  refine loop_scan l _ (fun i hi => ?_) ?_
  · unfold impl_firstCode_l1b
    rw [if_pos (by simp; omega), idx_nat hi]
    simp only [Option.bind_some]
    rw [w64_nat (by omega)]
    cases l[i] != 0 <;> rfl
  · unfold impl_firstCode_l1b
    rw [if_neg (by simp)]

theorem PackFault_impl (p : Pack) (hp : Pack.sm 1048576 p) : impl_PackFault p = some (PF p) := by
  have hl := PackFault_listsI p hp
  obtain ⟨_, _, _, hpr, hne, hba⟩ := hp
  have k1 := loop_scan p.Needs (fun i l => if decide ((l.length : Int) > 4) then some (i : Int) else none) (b := slices_IndexFunc_LLimplTerm_impl_PackFault_1_l1b p.Needs) (by
    intro i hi
    unfold slices_IndexFunc_LLimplTerm_impl_PackFault_1_l1b impl_PackFault_1
    rw [if_pos (by simp; omega), idx_nat hi]
    simp only [Option.bind_some]
    rw [w64_nat (by omega)]
    cases decide ((p.Needs[i].length : Int) > 4) <;> rfl) (by
    unfold slices_IndexFunc_LLimplTerm_impl_PackFault_1_l1b
    rw [if_neg (by simp)])
  have k2 : slices_ContainsFunc_LLimplTerm_impl_PackFault_1 p.Needs = some (p.Needs.any (fun l => decide ((l.length : Int) > 4))) := by
    unfold slices_ContainsFunc_LLimplTerm_impl_PackFault_1 slices_IndexFunc_LLimplTerm_impl_PackFault_1 slices_IndexFunc_LLimplTerm_impl_PackFault_1_l1
    rw [k1, frs_go, ← place_ge (scan_place (fun l : List Term => decide ((l.length : Int) > 4)) p.Needs 0)]
    cases scanL (fun j (x : List Term) => if decide ((x.length : Int) > 4) then some (j : Int) else none) 0 p.Needs <;> rfl
  have k3 : impl_firstCode [NF p.Name, VF p.Version] = some (if NF p.Name != 0 then NF p.Name else VF p.Version) := by
    have k := firstOf2 [NF p.Name, VF p.Version] (by simp)
    unfold impl_firstCode impl_firstCode_l1
    rw [k, frs_go]
    simp only [scanL]
    cases hn : NF p.Name != 0
    · cases hv : VF p.Version != 0
      · have : VF p.Version = 0 := by simpa using hv
        simp [this]
      · rfl
    · rfl
  unfold impl_PackFault PF manyB
  simp only [NameFault_impl, VersionFault_impl, within_eq, Option.bind_some]
  rw [hl, k2, k3]
  simp only [Option.bind_some]
  cases hn : NF p.Name != 0
  · simp only [Bool.false_eq_true, if_false]
    cases VF p.Version != 0 <;> cases inB p.Size 1 200 <;> cases decide ((p.Provides.length : Int) > 4) <;> cases decide ((p.Needs.length : Int) > 4) <;> cases decide ((p.Bars.length : Int) > 4) <;> cases p.Needs.any (fun l => decide ((l.length : Int) > 4)) <;> rfl
  · simp only [if_true, hn]

/-! ### Catalogs -/
/-- One of this name and version. -/
def isB (n : ByteArray) (v : Version) (q : Pack) : Bool := seq q.Name n && eqV q.Version v

/-- The place of a package. -/
def findK (c : List Pack) (n : ByteArray) (v : Version) : Int := (scanL (fun i q => if isB n v q then some (i : Int) else none) 0 c).getD (-1)

theorem findK_any (c : List Pack) (n : ByteArray) (v : Version) : decide (findK c n v ≥ 0) = c.any (isB n v) := place_ge (scan_place (isB n v) c 0)

theorem findK_spec (c : List Pack) (n : ByteArray) (v : Version) (h : c.length ≤ 1048576) : spec_l2Find c n v = some (findK c n v) := by
  have key := loop_scan c (fun i q => if isB n v q then some (i : Int) else none) (b := spec_l2Find_l1b c n v) (by
    intro i hi
    unfold spec_l2Find_l1b isB
    rw [if_pos (by simp; omega), idx_nat hi]
    simp only [Option.bind_some, CompareVersions_spec, cmpV_zero]
    rw [w64_nat (by omega)]
    cases seq c[i].Name n <;> cases eqV c[i].Version v <;> rfl) (by
    unfold spec_l2Find_l1b
    rw [if_neg (by simp)])
  unfold findK
  unfold spec_l2Find spec_l2Find_l1
  rw [key, frs_go]
  cases scanL (fun i q => if isB n v q then some (i : Int) else none) 0 c <;> rfl

theorem findK_impl (c : List Pack) (n : ByteArray) (v : Version) (h : c.length ≤ 1048576) : impl_find c n v = some (findK c n v) := by
  have key := loop_scan c (fun i q => if isB n v q then some (i : Int) else none) (b := slices_IndexFunc_LimplPack_impl_find_1_l1b c n v) (by
    intro i hi
    unfold slices_IndexFunc_LimplPack_impl_find_1_l1b isB impl_find_1
    rw [if_pos (by simp; omega), idx_nat hi]
    simp only [Option.bind_some]
    rw [w64_nat (by omega)]
    show (Option.bind (if seq c[i].Name n = true then some (eqV c[i].Version v) else some false) _) = _
    cases seq c[i].Name n <;> cases eqV c[i].Version v <;> rfl) (by
    unfold slices_IndexFunc_LimplPack_impl_find_1_l1b
    rw [if_neg (by simp)])
  unfold findK
  unfold impl_find slices_IndexFunc_LimplPack_impl_find_1 slices_IndexFunc_LimplPack_impl_find_1_l1
  rw [key, frs_go]
  cases scanL (fun i q => if isB n v q then some (i : Int) else none) 0 c <;> rfl

theorem find_spec (c : List Pack) (n : ByteArray) (v : Version) (h : c.length ≤ 1048576) : ∃ k, spec_l2Find c n v = some k ∧ decide (k ≥ 0) = c.any (isB n v) := ⟨_, findK_spec c n v h, findK_any c n v⟩

theorem find_impl (c : List Pack) (n : ByteArray) (v : Version) (h : c.length ≤ 1048576) : ∃ k, impl_find c n v = some k ∧ decide (k ≥ 0) = c.any (isB n v) := ⟨_, findK_impl c n v h, findK_any c n v⟩

theorem scan_bound {p : Pack → Bool} : ∀ (c : List Pack) (i : Nat), (scanL (fun i q => if p q then some (i : Int) else none) i c).getD (-1) = -1 ∨ ((i : Int) ≤ (scanL (fun i q => if p q then some (i : Int) else none) i c).getD (-1) ∧ (scanL (fun i q => if p q then some (i : Int) else none) i c).getD (-1) < (i : Int) + c.length)
  | [], i => .inl rfl
  | q :: c, i => by
    simp only [scanL]
    cases h : p q
    · have := scan_bound (p := p) c (i + 1)
      simp only [Bool.false_eq_true, if_false, List.length_cons]
      rcases this with h | h
      · exact .inl h
      · exact .inr (by omega)
    · simp only [if_true, Option.getD_some, List.length_cons]
      exact .inr (by omega)

theorem findK_bound (c : List Pack) (n : ByteArray) (v : Version) : findK c n v = -1 ∨ (0 ≤ findK c n v ∧ findK c n v < c.length) := by
  have := scan_bound (p := isB n v) c 0
  unfold findK
  rcases this with h | h
  · exact .inl h
  · exact .inr (by simpa using h)

def catG (c : List Pack) (i : Nat) (p : Pack) : Option Int := if PF p != 0 then some (PF p) else if (c.take i).any (isB p.Name p.Version) then some 6 else none

/-- What is wrong with a catalog. -/
def CF (c : List Pack) : Int := if decide ((c.length : Int) > 24) then 2 else (scanL (catG c) 0 c).getD 0

theorem CatalogFault_spec (c : List Pack) (hc : c.length ≤ 1048576 ∧ ∀ y0 ∈ c, Pack.sm 1048576 y0) : spec_CatalogFault c = some (CF c) := by
  have key := loop_scan c (catG c) (b := spec_CatalogFault_l1b c) (by
    intro i hi
    unfold spec_CatalogFault_l1b catG
    rw [if_pos (by simp; omega), idx_nat hi]
    simp only [Option.bind_some]
    rw [PackFault_spec _ (hc.2 _ (List.getElem_mem hi)), take_sub (by omega)]
    simp only [Option.bind_some]
    obtain ⟨k, e, hk⟩ := find_spec (c.take i) c[i].Name c[i].Version (by simp; omega)
    rw [e, w64_nat (by omega)]
    simp only [Option.bind_some]
    rw [hk]
    cases PF c[i] != 0 <;> cases (c.take i).any (isB c[i].Name c[i].Version) <;> rfl) (by
    unfold spec_CatalogFault_l1b
    rw [if_neg (by simp)])
  unfold spec_CatalogFault CF spec_CatalogFault_l1
  rw [key, frs_go]
  cases decide ((c.length : Int) > 24) <;> cases scanL (catG c) 0 c <;> rfl

theorem CatalogFault_impl (c : List Pack) (hc : c.length ≤ 1048576 ∧ ∀ y0 ∈ c, Pack.sm 1048576 y0) : impl_CatalogFault c = some (CF c) := by
  have key := loop_scan c (catG c) (b := impl_CatalogFault_l1b c) (by
    intro i hi
    unfold impl_CatalogFault_l1b catG
    rw [if_pos (by simp; omega), idx_nat hi]
    simp only [Option.bind_some]
    rw [PackFault_impl _ (hc.2 _ (List.getElem_mem hi)), take_sub (by omega)]
    simp only [Option.bind_some]
    obtain ⟨k, e, hk⟩ := find_impl (c.take i) c[i].Name c[i].Version (by simp; omega)
    rw [e, w64_nat (by omega)]
    simp only [Option.bind_some]
    rw [hk]
    cases PF c[i] != 0 <;> cases (c.take i).any (isB c[i].Name c[i].Version) <;> rfl) (by
    unfold impl_CatalogFault_l1b
    rw [if_neg (by simp)])
  unfold impl_CatalogFault CF impl_CatalogFault_l1
  rw [key, frs_go]
  cases decide ((c.length : Int) > 24) <;> cases scanL (catG c) 0 c <;> rfl

def Cat (c : List Pack) : Prop := c.length ≤ 1048576 ∧ ∀ y0 ∈ c, Pack.sm 1048576 y0

/-! ### The path of a generation -/
theorem decL_pad : ∀ (k n : Nat), n < 10 ^ (k + 1) → decL (10 ^ (k + 1) + n) = 49 :: (List.replicate (k + 1 - (decL n).length) 48 ++ decL n)
  | 0, n, h => by
    have h' : n < 10 := by simpa using h
    rw [decL_big (by simp), show (10 ^ (0 + 1) + n) / 10 = 1 by simp; omega, show (10 ^ (0 + 1) + n) % 10 = n by simp; omega, decL_small (n := 1) (by omega), decL_small h']
    rfl
  | k + 1, n, h => by
    have hp : 1 ≤ 10 ^ k := Nat.one_le_pow _ _ (by omega)
    have e1 : 10 ^ (k + 1 + 1) = 10 * 10 ^ (k + 1) := by rw [Nat.pow_succ]; omega
    rw [e1] at h
    have hq : n / 10 < 10 ^ (k + 1) := by omega
    have ih := decL_pad k (n / 10) hq
    have hl := decL_le k (n / 10) hq
    rw [e1, decL_big (by omega), show (10 * 10 ^ (k + 1) + n) / 10 = 10 ^ (k + 1) + n / 10 by omega, show (10 * 10 ^ (k + 1) + n) % 10 = n % 10 by omega, ih]
    by_cases hn : n < 10
    · rw [show n / 10 = 0 by omega, decL_small (n := 0) (by omega), decL_small hn, show n % 10 = n by omega]
      simp only [List.length_singleton, List.cons_append, List.append_assoc, List.nil_append]
      rw [show k + 1 + 1 - 1 = k + 1 by omega, show k + 1 - 1 = k by omega]
      rw [show List.replicate (k + 1) (48 : Int) = List.replicate k 48 ++ [48] from List.replicate_succ']
      simp
    · rw [decL_big hn, List.length_append]
      simp only [List.length_singleton, List.cons_append, List.append_assoc]
      rw [show k + 1 + 1 - ((decL (n / 10)).length + 1) = k + 1 - (decL (n / 10)).length by omega]

theorem bl_mk (l : List UInt8) : bl ⟨l.toArray⟩ = l.map (fun b => (b.toNat : Int)) := by
  unfold bl
  rw [ByteArray.toList_eq]

theorem repeat_rep (u : UInt8) : ∀ (n : Nat), Lib.repeatL [u] n = List.replicate n u
  | 0 => rfl
  | n + 1 => by rw [Lib.repeatL, repeat_rep u n, List.replicate_succ]; rfl

/-- The path of a generation, as bytes. -/
def genL (n : Int) : List Int := [103, 101, 110, 47] ++ (List.replicate (6 - (decL n.toNat).length) 48 ++ decL n.toNat)

theorem toList_bs (l : List UInt8) : (bs l).data.toList = l := rfl

/-- The path of a generation. -/
def genS (n : Int) : ByteArray := bs [103, 101, 110, 47] ++ (⟨(List.replicate (6 - (decL n.toNat).length) (48 : UInt8)).toArray⟩ ++ decS n.toNat)

theorem bl_genS (n : Int) : bl (genS n) = genL n := by
  unfold genS genL
  rw [bl_append, bl_append, bl_bs, bl_mk, bl_decS, List.map_replicate]
  rfl

theorem decL_six {n : Nat} (h : n ≤ 999999) : 1 ≤ (decL n).length ∧ (decL n).length ≤ 6 := by
  refine ⟨?_, decL_le 5 n (by omega)⟩
  by_cases hn : n < 10
  · rw [decL_small hn]; simp
  · rw [decL_big hn, List.length_append]; simp

theorem ssub_of {s : ByteArray} {l h : Nat} (h1 : l ≤ h) (h2 : h ≤ s.size) : ssub s (l : Int) (h : Int) = some (s.extract l h) := by
  unfold ssub
  rw [if_pos (by omega)]
  rfl

theorem genPath_impl {n : Int} (h0 : 0 ≤ n) (h1 : n ≤ 999999) : impl_genPath n = some (genS n) := by
  have hd := decL_six (n := n.toNat) (by omega)
  have hs : (decS n.toNat).size = (decL n.toNat).length := by rw [← bl_length, bl_decS]
  have hf := FormatInt_eq n.toNat (by omega)
  rw [Int.toNat_of_nonneg h0] at hf
  have h4 : (bs [103, 101, 110, 47]).size = 4 := rfl
  unfold impl_genPath impl_dec
  rw [hf]
  simp only [Option.bind_some]
  rw [hs, w64_of (by omega) (by omega)]
  unfold strings_Repeat
  rw [if_pos ⟨by omega, by omega, by rw [show (bs [48]).size = 1 from rfl]; omega⟩, toList_bs, repeat_rep]
  simp only [Option.bind_some]
  have hr : (⟨(List.replicate (6 - ((decL n.toNat).length : Int)).toNat (48 : UInt8)).toArray⟩ : ByteArray).size = 6 - (decL n.toNat).length := by
    rw [← bl_length, bl_mk]
    simp
  rw [cat_of (by rw [hr]; omega)]
  simp only [Option.bind_some]
  rw [cat_of (by rw [ba_size, hr]; omega)]
  unfold genS
  rw [show (6 - ((decL n.toNat).length : Int)).toNat = 6 - (decL n.toNat).length by omega]
  simp only [Option.bind_some, ba_assoc]

theorem GenPath_spec (n : Int) : spec_GenPath n = some (if inB n 1 999999 then genS n else bs []) := by
  unfold spec_GenPath
  rw [l1In_eq]
  simp only [Option.bind_some]
  cases h : inB n 1 999999
  · rfl
  have h' : 1 ≤ n ∧ n ≤ 999999 := by simpa [inB] using h
  rw [if_neg (by simp), w64_of (by omega) (by omega)]
  have e := l1Decimal_eq (1000000 + n.toNat) (by omega)
  rw [show ((1000000 + n.toNat : Nat) : Int) = 1000000 + n by omega] at e
  rw [e]
  simp only [Option.bind_some]
  have hp := decL_pad 5 n.toNat (by omega)
  rw [show 10 ^ (5 + 1) + n.toNat = 1000000 + n.toNat by omega] at hp
  have hd := decL_six (n := n.toNat) (by omega)
  have hz : (decS (1000000 + n.toNat)).size = 7 := by
    rw [← bl_length, bl_decS, hp]
    simp
    omega
  have e2 := ssub_of (s := decS (1000000 + n.toNat)) (l := 1) (h := (decS (1000000 + n.toNat)).size) (by omega) (Nat.le_refl _)
  rw [show ((1 : Nat) : Int) = 1 from rfl] at e2
  rw [e2]
  simp only [Option.bind_some]
  have hx : ((decS (1000000 + n.toNat)).extract 1 (decS (1000000 + n.toNat)).size).size = 6 := by
    rw [← bl_length, bl_extract, bl_decS, hp, hz]
    simp
    omega
  rw [cat_of (by rw [hx]; decide)]
  simp only [Option.bind_some, if_true]
  congr 1
  refine bl_inj.1 ?_
  rw [bl_append, bl_extract, bl_decS, hp, bl_genS, bl_bs, hz]
  unfold genL
  rw [List.take_of_length_le (by simp; omega)]
  rfl

theorem rise_len : ∀ {a : List Int} {lo hi : Int}, a.Pairwise (· < ·) → (∀ k ∈ a, lo ≤ k ∧ k < hi) → (a.length : Int) ≤ hi - lo ∨ a = []
  | [], _, _, _, _ => .inr rfl
  | x :: a, lo, hi, hp, hb => by
    obtain ⟨h1, h2⟩ := List.pairwise_cons.1 hp
    have hx := hb x (by simp)
    have := rise_len (lo := x + 1) (hi := hi) h2 (fun k hk => ⟨by have := h1 k hk; omega, (hb k (by simp [hk])).2⟩)
    refine .inl ?_
    rcases this with h3 | h3
    · simp only [List.length_cons]; omega
    · subst h3; simp; omega

theorem bl_toList (s : ByteArray) : s.data.toList.map (fun b => (b.toNat : Int)) = bl s := by
  unfold bl
  rw [ByteArray.toList_eq]

/-! ### What is lacking -/
def fileOf (d : Disk) (p : ByteArray) : Option File := d.Files.find? (fun f => decide (f.Path = p))

/-- The bytes of files are bytes. -/
def Byt (d : Disk) : Prop := ∀ f ∈ d.Files, ∀ c ∈ f.Data, 0 ≤ c ∧ c ≤ 255

theorem file_both (d : Disk) (p : ByteArray) (hg : d.good) :
    (∃ k : Nat, ∃ hk : k < d.Files.length, spec_l7Find d p = some (k : Int) ∧ impl_Disk_data d p = some (d.Files[k].Data, true) ∧ fileOf d p = some d.Files[k]) ∨
      (spec_l7Find d p = some (-1) ∧ impl_Disk_data d p = some ([], false) ∧ fileOf d p = none) := by
  rcases data_both d p hg with ⟨k, hk, e1, e2, hp⟩ | ⟨e1, e2, hp⟩
  · exact .inl ⟨k, hk, e1, e2, find_of hg.sorted hk hp⟩
  · exact .inr ⟨e1, e2, find_none hp⟩

theorem foldI_filter {α : Type} (q : α → Bool) : ∀ (l : List α) (i : Nat) (acc : List α), foldI (fun _ a x => if q x then a ++ [x] else a) i l acc = acc ++ l.filter q
  | [], _, acc => by simp [foldI]
  | x :: l, i, acc => by
    simp only [foldI]
    rw [foldI_filter q l (i + 1)]
    cases h : q x <;> simp [h]

theorem firstCode2 (x y : Int) : impl_firstCode [x, y] = some (if x != 0 then x else y) := by
  unfold impl_firstCode impl_firstCode_l1
  rw [firstOf2 _ (by simp), frs_go]
  simp only [scanL]
  by_cases h : x = 0
  · by_cases h2 : y = 0 <;> simp [h, h2]
  · simp [h]

theorem Asked_spec {c : List Pack} {d : Disk} (hc : Cat c) : ∀ r, spec_DiskFault d = some r → spec_l8Asked c d = some (if CF c != 0 then CF c else r) := by
  intro r hr
  unfold spec_l8Asked
  rw [CatalogFault_spec c hc, hr]
  simp only [Option.bind_some]
  cases CF c != 0 <;> rfl

theorem both_impl {c : List Pack} {d : Disk} (hc : Cat c) : ∀ r, spec_DiskFault d = some r → impl_bothCode c d = some (if CF c != 0 then CF c else r) := by
  intro r hr
  unfold impl_bothCode
  rw [CatalogFault_impl c hc, DiskFault_same, hr]
  simp only [Option.bind_some, firstCode2]

/-! ### Texts cut at a byte -/
def cutL (c : Int) : List Int → List (List Int)
  | [] => [[]]
  | x :: l => if x = c then [] :: cutL c l else match cutL c l with
    | h :: t => (x :: h) :: t
    | [] => [[x]]

theorem cutL_ne (c : Int) : ∀ l, cutL c l ≠ []
  | [] => by simp [cutL]
  | x :: l => by
    unfold cutL
    split
    · simp
    · split <;> simp

theorem cutL_range {c : Int} : ∀ {l : List Int}, (∀ x ∈ l, 0 ≤ x ∧ x ≤ 255) → ∀ p ∈ cutL c l, ∀ x ∈ p, 0 ≤ x ∧ x ≤ 255
  | [], _ => by simp [cutL]
  | y :: l, h => by
    have ih := cutL_range (c := c) (l := l) (fun x hx => h x (by simp [hx]))
    intro p hp
    unfold cutL at hp
    split at hp
    · rcases List.mem_cons.1 hp with rfl | hp
      · simp
      · exact ih p hp
    · split at hp
      · rename_i a t e
        rcases List.mem_cons.1 hp with rfl | hp
        · intro x hx
          rcases List.mem_cons.1 hx with rfl | hx
          · exact h _ (by simp)
          · exact ih a (by rw [e]; simp) x hx
        · exact ih p (by rw [e]; simp [hp])
      · rename_i e
        exact absurd e (cutL_ne c l)

theorem cutL_length (c : Int) : ∀ l, (cutL c l).length ≤ l.length + 1
  | [] => by simp [cutL]
  | x :: l => by
    have ih := cutL_length c l
    unfold cutL
    split
    · simp; omega
    · split
      · rename_i e; rw [e] at ih; simp at ih ⊢; omega
      · simp

theorem cutL_size (c : Int) : ∀ l, ∀ p ∈ cutL c l, p.length ≤ l.length
  | [] => by simp [cutL]
  | x :: l => by
    have ih := cutL_size c l
    intro p hp
    unfold cutL at hp
    split at hp
    · rcases List.mem_cons.1 hp with rfl | hp
      · simp
      · have := ih p hp; simp; omega
    · split at hp
      · rename_i a t e
        rcases List.mem_cons.1 hp with rfl | hp
        · have := ih a (by rw [e]; simp); simp; omega
        · have := ih p (by rw [e]; simp [hp]); simp; omega
      · simp at hp; rw [hp]; simp

/-- The parts, as texts. -/
def partsS (c : Int) (s : ByteArray) : List ByteArray := (cutL c (bl s)).map b2s

theorem partsS_bl (c : Int) (s : ByteArray) : (partsS c s).map bl = cutL c (bl s) := by
  unfold partsS
  rw [List.map_map]
  have : ∀ p ∈ cutL c (bl s), (bl ∘ b2s) p = id p := fun p hp => bl_b2s (cutL_range bl_range p hp)
  rw [List.map_congr_left this, List.map_id]

theorem map_bl_inj : ∀ {a b : List ByteArray}, a.map bl = b.map bl → a = b
  | [], [], _ => rfl
  | [], _ :: _, h => by simp at h
  | _ :: _, [], h => by simp at h
  | x :: a, y :: b, h => by
    simp only [List.map_cons, List.cons.injEq] at h
    rw [bl_inj.1 h.1, map_bl_inj h.2]

theorem partsS_of {c : Int} {s : ByteArray} {ps : List ByteArray} (h : ps.map bl = cutL c (bl s)) : ps = partsS c s := map_bl_inj (h.trans (partsS_bl c s).symm)

/-! strings.Split at one byte -/
def cutU (c : UInt8) : List UInt8 → List (List UInt8)
  | [] => [[]]
  | x :: l => if x = c then [] :: cutU c l else match cutU c l with
    | h :: t => (x :: h) :: t
    | [] => [[x]]

theorem cutU_cutL (c : UInt8) : ∀ (l : List UInt8), (cutU c l).map (fun p => p.map (fun b => (b.toNat : Int))) = cutL (c.toNat : Int) (l.map (fun b => (b.toNat : Int)))
  | [] => rfl
  | x :: l => by
    have ih := cutU_cutL c l
    simp only [List.map_cons]
    unfold cutU cutL
    by_cases h : x = c
    · subst h
      rw [if_pos rfl, if_pos rfl, List.map_cons, ih]
      rfl
    · have h' : ¬ ((x.toNat : Int) = (c.toNat : Int)) := fun e => h (UInt8.toNat_inj.1 (by omega))
      rw [if_neg h, if_neg h', ← ih]
      cases hc : cutU c l with
      | nil => rfl
      | cons a t => rfl

theorem cutU_none (c : UInt8) : ∀ (l : List UInt8), c ∉ l → cutU c l = [l]
  | [], _ => rfl
  | x :: l, h => by
    unfold cutU
    rw [if_neg (fun e => h (by simp [e])), cutU_none c l (fun e => h (by simp [e]))]

theorem index_one (c b : UInt8) (l : List UInt8) : Lib.index (b :: l) [c] = if b = c then 0 else if Lib.index l [c] == -1 then -1 else Lib.index l [c] + 1 := by
  rw [Lib.index]
  have : ([c].isPrefixOf (b :: l)) = decide (b = c) := by
    simp only [List.isPrefixOf, Bool.and_true]
    rw [Bool.eq_iff_iff, beq_iff_eq, decide_eq_true_eq]
    exact ⟨fun h => h.symm, fun h => h.symm⟩
  rw [this]
  by_cases h : b = c <;> simp [h]

theorem splitK_cut (c : UInt8) : ∀ (l : List UInt8) (k : Nat), l.count c ≤ k → Lib.splitK [c] 0 k l = cutU c l
  | [], k, _ => by
    cases k with
    | zero => rfl
    | succ k => rfl
  | b :: l, 0, h => by
    have hn : c ∉ b :: l := List.count_eq_zero.1 (by omega)
    rw [cutU_none c _ hn]
    rfl
  | b :: l, k + 1, h => by
    unfold cutU
    by_cases hb : b = c
    · subst hb
      rw [if_pos rfl]
      have e : Lib.index (b :: l) [b] = 0 := by rw [index_one, if_pos rfl]
      rw [Lib.splitK, e]
      simp only [List.count_cons_self] at h
      rw [if_neg (by decide)]
      show [] :: Lib.splitK [b] 0 k ((b :: l).drop 1) = _
      rw [List.drop_one, List.tail_cons, splitK_cut b l k (by omega)]
    · rw [if_neg hb]
      have hc : l.count c ≤ k + 1 := by rw [List.count_cons_of_ne hb] at h; exact h
      have ih := splitK_cut c l (k + 1) hc
      rw [← ih, Lib.splitK, Lib.splitK, index_one, if_neg hb]
      cases hi : Lib.index l [c] == -1
      · have hge := Lib.index_ge l [c]
        have hne : Lib.index l [c] ≠ -1 := by simpa using hi
        have hne' : (Lib.index l [c] + 1 == -1) = false := by
          rw [beq_eq_false_iff_ne]; omega
        simp only [Bool.false_eq_true, if_false, hne']
        rw [show (Lib.index l [c] + 1).toNat = (Lib.index l [c]).toNat + 1 by omega]
        simp only [Nat.add_zero, List.length_singleton, List.take_succ_cons, List.drop_succ_cons]
      · simp

theorem Split_impl (s : ByteArray) (c : UInt8) (h : s.size ≤ 1048577) : strings_Split s ⟨#[c]⟩ = some (partsS (c.toNat : Int) s) := by
  unfold strings_Split
  rw [if_pos ⟨by omega, by show 1 ≤ 1; omega⟩]
  congr 1
  refine partsS_of ?_
  have e := Lib.splitB_data ⟨#[c]⟩ 0 (Lib.countB s ⟨#[c]⟩) s
  have e2 : Lib.countB s ⟨#[c]⟩ = s.data.toList.count c := Lib.count_one c s.data.toList
  rw [e2] at e ⊢
  rw [show (⟨#[c]⟩ : ByteArray).data.toList = [c] from rfl, splitK_cut c _ _ (Nat.le_refl _)] at e
  have e3 : ∀ ps : List ByteArray, ps.map bl = (ps.map (·.data.toList)).map (fun p => p.map (fun b => (b.toNat : Int))) := by
    intro ps
    rw [List.map_map]
    exact List.map_congr_left (fun p _ => (bl_toList p).symm)
  rw [e3, e, cutU_cutL, bl_toList]

/-! the reference's cut -/
def cutF (c : Int) (l : List Int) : List (List Int) × List Int := l.foldl (fun a x => if x = c then (a.1 ++ [a.2], []) else (a.1, a.2 ++ [x])) ([], [])

theorem cutF_gen (c : Int) : ∀ (l : List Int) (a : List (List Int) × List Int), (l.foldl (fun a x => if x = c then (a.1 ++ [a.2], []) else (a.1, a.2 ++ [x])) a).1 ++ [(l.foldl (fun a x => if x = c then (a.1 ++ [a.2], []) else (a.1, a.2 ++ [x])) a).2] =
    a.1 ++ (match cutL c l with | h :: t => (a.2 ++ h) :: t | [] => [a.2])
  | [], a => by simp [cutL]
  | x :: l, a => by
    simp only [List.foldl_cons]
    rw [cutF_gen c l]
    have hn := cutL_ne c l
    by_cases h : x = c
    · rw [if_pos h]
      conv => rhs; unfold cutL
      rw [if_pos h]
      cases hc : cutL c l with
      | nil => exact absurd hc hn
      | cons a t => simp
    · rw [if_neg h]
      conv => rhs; unfold cutL
      rw [if_neg h]
      cases hc : cutL c l with
      | nil => exact absurd hc hn
      | cons a t => simp

theorem cutF_eq (c : Int) (l : List Int) : (cutF c l).1 ++ [(cutF c l).2] = cutL c l := by
  unfold cutF
  rw [cutF_gen c l ([], [])]
  cases h : cutL c l with
  | nil => exact absurd h (cutL_ne c l)
  | cons a t => simp

theorem cutF_snoc (c : Int) (l : List Int) (x : Int) : cutF c (l ++ [x]) = if x = c then ((cutF c l).1 ++ [(cutF c l).2], []) else ((cutF c l).1, (cutF c l).2 ++ [x]) := by
  unfold cutF
  rw [List.foldl_append]
  rfl

theorem cutF_len (c : Int) (l : List Int) : (cutF c l).1.length ≤ l.length := by
  have h1 := cutF_eq c l
  have h2 := cutL_length c l
  rw [← h1] at h2
  simp at h2
  exact h2

theorem l1Parts_spec (s : ByteArray) (c : Int) (h : s.size ≤ 1048577) : spec_l1Parts s c = some (partsS c s) := by
  have hlen := bl_length s
  obtain ⟨t, e, ht⟩ := loop_up (b := spec_l1Parts_l1b s c) (fun i q => q.2.2 = (i : Int) ∧
      ((i ≤ s.size ∧ q.1.map bl = (cutF c ((bl s).take i)).1 ∧ ∃ f : Nat, q.2.1 = (f : Int) ∧ f ≤ i ∧ ((bl s).drop f).take (i - f) = (cutF c ((bl s).take i)).2) ∨ (i = s.size + 1 ∧ q.1.map bl = cutL c (bl s)))) (s.size + 1)
    (fun t => t.map bl = cutL c (bl s)) (by
    rintro i ⟨out, from_, j⟩ hi ⟨hj, hI⟩
    simp only at hj hI
    subst hj
    rcases hI with ⟨hle, ho, f, hf, hfi, hc⟩ | ⟨he, _⟩
    case inr => omega
    subst hf
    have hol : out.length ≤ i := by
      have := congrArg List.length ho
      rw [List.length_map] at this
      rw [this]
      refine Nat.le_trans (cutF_len _ _) ?_
      simp
      omega
    unfold spec_l1Parts_l1b
    rw [if_pos (by simp; omega)]
    simp only
    by_cases hn : i = s.size
    · subst hn
      have es : ssub s (f : Int) (s.size : Int) = some (s.extract f s.size) := ssub_of hfi (Nat.le_refl _)
      rw [if_pos (by simp)]
      simp only [Option.bind_some, if_true]
      rw [es]
      simp only [Option.bind_some]
      rw [app_of (by simp; omega) (by simp; omega), w64_nat (by omega)]
      refine .inl ⟨_, rfl, rfl, .inr ⟨trivial, ?_⟩⟩
      have htk : (bl s).take s.size = bl s := by rw [← hlen, List.take_length]
      rw [htk] at ho hc
      rw [List.map_append, ho, ← cutF_eq]
      simp only [List.map_cons, List.map_nil]
      rw [bl_extract, hc]
    · have hlt : i < (bl s).length := by omega
      have htk : (bl s).take (i + 1) = (bl s).take i ++ [(bl s)[i]] := List.take_succ_eq_append_getElem hlt
      rw [if_neg (by simp; omega), bidx_nat hlt]
      simp only [Option.bind_some]
      by_cases hb : (bl s)[i] = c
      · rw [show ((bl s)[i] == c) = true by simpa using hb]
        simp only [if_true]
        have es : ssub s (f : Int) (i : Int) = some (s.extract f i) := ssub_of hfi (by omega)
        rw [es]
        simp only [Option.bind_some]
        rw [app_of (by simp; omega) (by simp; omega), w64_nat (by omega)]
        refine .inl ⟨_, rfl, rfl, .inl ⟨by omega, ?_, i + 1, rfl, Nat.le_refl _, ?_⟩⟩
        · rw [htk, cutF_snoc, if_pos hb, List.map_append, ho]
          simp only [List.map_cons, List.map_nil]
          rw [bl_extract, hc]
        · rw [htk, cutF_snoc, if_pos hb]
          simp
      · rw [show ((bl s)[i] == c) = false by simpa using hb]
        simp only [Bool.false_eq_true, if_false, Option.bind_some]
        rw [w64_nat (by omega)]
        refine .inl ⟨_, rfl, rfl, .inl ⟨by omega, ?_, f, rfl, by omega, ?_⟩⟩
        · rw [htk, cutF_snoc, if_neg hb]
          exact ho
        · rw [htk, cutF_snoc, if_neg hb, ← hc, show i + 1 - f = (i - f) + 1 by omega]
          have hd : i - f < ((bl s).drop f).length := by simp; omega
          rw [List.take_succ_eq_append_getElem hd]
          congr 2
          rw [List.getElem_drop]
          congr 1
          omega) (by
    rintro ⟨out, from_, j⟩ ⟨hj, hI⟩
    simp only at hj hI
    subst hj
    rcases hI with ⟨hle, _⟩ | ⟨_, ho⟩
    · omega
    unfold spec_l1Parts_l1b
    rw [if_neg (by simp; omega)]
    exact ⟨_, rfl, ho⟩) (s.size + 1) 0 (([] : List ByteArray), 0, 0) (by omega) ⟨rfl, .inl ⟨by omega, rfl, 0, rfl, by omega, by simp [cutF]⟩⟩
  unfold spec_l1Parts spec_l1Parts_l1
  rw [e, partsS_of ht]
  rfl

/-- The lines of a text. -/
def linesS (s : ByteArray) : List ByteArray := if (partsS 10 s).getLast? = some (bs []) then (partsS 10 s).dropLast else partsS 10 s

theorem lines_tail (ps : List ByteArray) (h0 : ps ≠ []) (hl : ps.length ≤ 1048578) : ((idx ps (w64 ((ps.length : Int) - 1))).bind fun x4 => (if seq x4 (bs []) then ((lsub ps 0 (w64 ((ps.length : Int) - 1))).bind fun x7 => some x7) else (some ps)).bind fun v9 => some v9) =
    some (if ps.getLast? = some (bs []) then ps.dropLast else ps) := by
  have hp : 0 < ps.length := List.length_pos_iff.2 h0
  rw [w64_of (by omega) (by omega), show (ps.length : Int) - 1 = ((ps.length - 1 : Nat) : Int) by omega, idx_nat (show ps.length - 1 < ps.length by omega)]
  simp only [Option.bind_some]
  have hg : ps.getLast? = some ps[ps.length - 1] := by
    rw [List.getLast?_eq_getElem?, List.getElem?_eq_getElem]
  rw [hg]
  by_cases h : ps[ps.length - 1] = bs []
  · rw [if_pos (seq_iff.2 h), if_pos (by rw [h])]
    have e : lsub ps 0 ((ps.length - 1 : Nat) : Int) = some (ps.take (ps.length - 1)) := take_sub (by omega)
    rw [e, List.dropLast_eq_take]
    rfl
  · have hs : seq ps[ps.length - 1] (bs []) = false := by
      cases hq : seq ps[ps.length - 1] (bs []) with
      | false => rfl
      | true => exact absurd (seq_iff.1 hq) h
    rw [hs, if_neg (show ¬ (some ps[ps.length - 1] = some (bs [])) from fun e => h (Option.some.inj e))]
    rfl

theorem partsS_ne (c : Int) (s : ByteArray) : partsS c s ≠ [] := by
  unfold partsS
  intro h
  exact cutL_ne c (bl s) (List.map_eq_nil_iff.1 h)

theorem partsS_len (c : Int) (s : ByteArray) : (partsS c s).length ≤ s.size + 1 := by
  unfold partsS
  rw [List.length_map, ← bl_length]
  exact cutL_length c (bl s)

theorem l2Lines_spec (s : ByteArray) (h : s.size ≤ 1048577) : spec_l2Lines s = some (linesS s) := by
  unfold spec_l2Lines
  rw [l1Parts_spec s 10 h]
  exact lines_tail _ (partsS_ne _ _) (by have := partsS_len 10 s; omega)

theorem linesOf_impl (s : ByteArray) (h : s.size ≤ 1048577) : impl_linesOf s = some (linesS s) := by
  unfold impl_linesOf
  have e := Split_impl s 10 h
  rw [show (((10 : UInt8).toNat : Nat) : Int) = 10 from rfl] at e
  rw [show bs [10] = ⟨#[10]⟩ from rfl, e]
  exact lines_tail _ (partsS_ne _ _) (by have := partsS_len 10 s; omega)

theorem linesS_len (s : ByteArray) : (linesS s).length ≤ s.size + 1 := by
  have := partsS_len 10 s
  unfold linesS
  split
  · simp; omega
  · exact this

theorem linesS_size (s : ByteArray) : ∀ p ∈ linesS s, p.size ≤ s.size := by
  intro p hp
  have hm : p ∈ partsS 10 s := by
    unfold linesS at hp
    split at hp
    · exact (List.dropLast_sublist _).subset hp
    · exact hp
  have hb : bl p ∈ cutL 10 (bl s) := by
    rw [← partsS_bl]
    exact List.mem_map_of_mem hm
  have := cutL_size 10 (bl s) _ hb
  rw [bl_length, bl_length] at this
  exact this

/-! ### A version, read -/
def errV : VersionResult := { Code := 5, Version := zeroV }

def verStep (i : Nat) (a : List Int) (x : ByteArray) : Lp (List Int) (Fl VersionResult (List Int)) := match numL (bl x) 3 with
  | some n => .go (a.set i n)
  | none => .done (.ret errV)

def verEnd (t : Fl VersionResult (List Int)) : VersionResult := match t with
  | .ret r => r
  | .nxt l => { Code := 0, Version := { A := l.getD 0 0, B := l.getD 1 0, C := l.getD 2 0 } }

/-- The version that a text tells. -/
def PV (s : ByteArray) : VersionResult := if (partsS 46 s).length > 3 then errV else verEnd (goL verStep .nxt 0 (partsS 46 s) [0, 0, 0])

theorem numL_nonneg {l : List Int} {n : Int} (h : numL l 3 = some n) : 0 ≤ n := by
  unfold numL at h
  split at h
  · cases h
  · rename_i h1
    cases h
    exact (val_bound (l := l) (by
      intro c hc
      cases hd : digB c with
      | true => rfl
      | false => exact absurd (.inr (.inr (fun h' => by rw [h' c hc] at hd; cases hd))) h1)).1

theorem goL_len3 : ∀ (ps : List ByteArray) (i : Nat) (a : List Int), a.length = 3 → match goL verStep Fl.nxt i ps a with | .ret r => r = errV | .nxt l => l.length = 3
  | [], _, a, h => h
  | p :: ps, i, a, h => by
    simp only [goL]
    unfold verStep
    cases hn : numL (bl p) 3 with
    | none => rfl
    | some n => exact goL_len3 ps (i + 1) (a.set i n) (by simpa using h)

theorem ParseVersion_spec (s : ByteArray) (h : s.size ≤ 1048577) : spec_ParseVersion s = some (PV s) := by
  unfold spec_ParseVersion PV
  rw [l1Parts_spec s 46 h]
  simp only [Option.bind_some]
  by_cases hl : (partsS 46 s).length > 3
  · rw [if_pos (by simp; omega), if_pos hl]; rfl
  rw [if_neg (by simp; omega), if_neg hl]
  have key := loop_list (partsS 46 s) verStep Fl.nxt (fun i a => (a, (i : Int))) (fun _ a => a.length = 3) (b := spec_ParseVersion_l1b (partsS 46 s)) [0, 0, 0] (by
    intro i a hi ha
    unfold spec_ParseVersion_l1b verStep
    rw [if_pos (by simp; omega), idx_nat hi]
    simp only [Option.bind_some, l1Number_eq _ 3 (by omega)]
    cases hn : numL (bl (partsS 46 s)[i]) 3 with
    | none => exact ⟨rfl, fun a' h => by cases h⟩
    | some n =>
      simp only [Bool.not_true, Bool.false_eq_true, if_false]
      rw [idx_nat (show i < a.length by omega), w64_nat (by omega)]
      exact ⟨rfl, fun a' h => by cases h; simpa using ha⟩) (by
    intro a ha
    unfold spec_ParseVersion_l1b
    rw [if_neg (by simp)]) rfl
  unfold spec_ParseVersion_l1
  rw [show ((0 : Nat) : Int) = 0 from rfl] at key
  rw [key]
  have h3 := goL_len3 (partsS 46 s) 0 [0, 0, 0] rfl
  cases hg : goL verStep Fl.nxt 0 (partsS 46 s) [0, 0, 0] with
  | ret r => rfl
  | nxt l =>
    rw [hg] at h3
    match l, h3 with
    | [x, y, z], _ => rfl

theorem ParseVersion_impl (s : ByteArray) (h : s.size ≤ 1048577) : impl_ParseVersion s = some (PV s) := by
  unfold impl_ParseVersion PV
  have e := Split_impl s 46 h
  rw [show (((46 : UInt8).toNat : Nat) : Int) = 46 from rfl] at e
  rw [show bs [46] = ⟨#[46]⟩ from rfl, e]
  simp only [Option.bind_some]
  by_cases hl : (partsS 46 s).length > 3
  · rw [if_pos (by simp; omega), if_pos hl]; rfl
  rw [if_neg (by simp; omega), if_neg hl]
  have key := loop_list (partsS 46 s) verStep Fl.nxt (fun i a => (a, (i : Int))) (fun _ a => a.length = 3) (b := impl_ParseVersion_l1b (partsS 46 s)) [0, 0, 0] (by
    intro i a hi ha
    have hia : i < a.length := by omega
    unfold impl_ParseVersion_l1b verStep
    rw [if_pos (by simp; omega), idx_nat hi]
    simp only [Option.bind_some, number_eq _ 3 (by omega)]
    have ea : ∀ (b : List Int), b.length = 3 → idxa b 3 (i : Int) = idx b (i : Int) := fun b hb => if_pos hb
    rw [ea a ha, idx_nat hia]
    simp only [Option.bind_some, Int.toNat_natCast]
    rw [ea _ (by simpa using ha), idx_nat (by simpa using hia)]
    simp only [Option.bind_some, List.getElem_set_self]
    cases hn : numL (bl (partsS 46 s)[i]) 3 with
    | none => exact ⟨rfl, fun a' h => by cases h⟩
    | some n =>
      have := numL_nonneg hn
      simp only
      rw [if_neg (by simpa using this), w64_nat (by omega)]
      exact ⟨rfl, fun a' h => by cases h; simpa using ha⟩) (by
    intro a ha
    unfold impl_ParseVersion_l1b
    rw [if_neg (by simp)]) rfl
  unfold impl_ParseVersion_l1
  rw [show ((0 : Nat) : Int) = 0 from rfl] at key
  rw [key]
  have h3 := goL_len3 (partsS 46 s) 0 [0, 0, 0] rfl
  cases hg : goL verStep Fl.nxt 0 (partsS 46 s) [0, 0, 0] with
  | ret r => rfl
  | nxt l =>
    rw [hg] at h3
    match l, h3 with
    | [x, y, z], _ => rfl

/-! ### Sorted lists without doubles -/
theorem sorted_ext : ∀ {l1 l2 : List Int}, l1.Pairwise (· < ·) → l2.Pairwise (· < ·) → (∀ x, x ∈ l1 ↔ x ∈ l2) → l1 = l2
  | [], [], _, _, _ => rfl
  | [], y :: l2, _, _, h => by have := (h y).2 (by simp); simp at this
  | x :: l1, [], _, _, h => by have := (h x).1 (by simp); simp at this
  | x :: l1, y :: l2, h1, h2, h => by
    rw [List.pairwise_cons] at h1 h2
    have hxy : x = y := by
      have hx := (h x).1 (by simp)
      have hy := (h y).2 (by simp)
      rcases List.mem_cons.1 hx with e | hx
      · exact e
      · rcases List.mem_cons.1 hy with e | hy
        · exact e.symm
        · have := h1.1 y hy
          have := h2.1 x hx
          omega
    subst hxy
    congr 1
    refine sorted_ext h1.2 h2.2 fun z => ?_
    constructor
    · intro hz
      rcases List.mem_cons.1 ((h z).1 (List.mem_cons_of_mem _ hz)) with e | hz'
      · have := h1.1 z hz; omega
      · exact hz'
    · intro hz
      rcases List.mem_cons.1 ((h z).2 (List.mem_cons_of_mem _ hz)) with e | hz'
      · have := h2.1 z hz; omega
      · exact hz'

theorem pairwise_getElem {l : List Int} (h : l.Pairwise (· < ·)) {i j : Nat} (hi : i < l.length) (hj : j < l.length) (hij : i < j) : l[i] < l[j] := List.pairwise_iff_getElem.1 h i j hi hj hij

/-- A number is put into its place. -/
theorem put_spec (l : List Int) (v : Int) (hs : l.Pairwise (· < ·)) (hv : v ∉ l) (hl : l.length ≤ 1048576) :
    ∃ r, spec_l3Put l v = some r ∧ r.Pairwise (· < ·) ∧ (∀ x, x ∈ r ↔ x ∈ l ∨ x = v) ∧ r.length = l.length + 1 := by
  obtain ⟨⟨acc, inn⟩, e, h1, h2, h3, h4⟩ := loop_up (b := spec_l3Put_l1b l v)
    (fun i s => s.2.2 = (i : Int) ∧ s.1.Pairwise (· < ·) ∧ (∀ x, x ∈ s.1 ↔ x ∈ l.take i ∨ (s.2.1 = true ∧ x = v)) ∧ s.1.length = i + (if s.2.1 then 1 else 0) ∧ (s.2.1 = false → ∀ x ∈ l.take i, x < v) ∧ (s.2.1 = true → ∀ x ∈ l.drop i, v < x)) l.length
    (fun t => t.1.Pairwise (· < ·) ∧ (∀ x, x ∈ t.1 ↔ x ∈ l ∨ (t.2 = true ∧ x = v)) ∧ t.1.length = l.length + (if t.2 then 1 else 0) ∧ (t.2 = false → ∀ x ∈ l, x < v)) (by
    rintro i ⟨acc, inn, j⟩ hi ⟨hj, hp, hm, hlen, hf, ht⟩
    simp only at hj hp hm hlen hf ht
    subst hj
    have hlt : ∀ x ∈ l.take i, x < l[i] := by
      intro x hx
      obtain ⟨k, hk, rfl⟩ := List.mem_iff_getElem.1 hx
      rw [List.getElem_take]
      have : k < i := by simp at hk; omega
      exact pairwise_getElem hs (by omega) hi this
    have htk : l.take (i + 1) = l.take i ++ [l[i]] := List.take_succ_eq_append_getElem hi
    have hdr : l.drop i = l[i] :: l.drop (i + 1) := List.drop_eq_getElem_cons hi
    have hne : l[i] ≠ v := fun e => hv (e ▸ List.getElem_mem hi)
    have hal : acc.length ≤ 1048577 := by rw [hlen]; split <;> omega
    unfold spec_l3Put_l1b
    rw [if_pos (by simp; omega), idx_nat hi]
    simp only [Option.bind_some]
    rw [w64_nat (by omega)]
    refine .inl ?_
    cases inn
    · by_cases hgt : l[i] > v
      · rw [if_pos (by simpa using hgt)]
        simp only [Bool.not_false, Option.bind_some, if_true]
        rw [app_of (by simp; omega) (by simp; omega)]
        simp only [Option.bind_some]
        rw [app_of (by simp; omega) (by simp; omega)]
        refine ⟨_, rfl, rfl, ?_, ?_, ?_, by simp, ?_⟩
        · simp only
          have hav : ∀ x ∈ acc, x < v := fun x hx => hf rfl x (by have := (hm x).1 hx; simpa using this)
          rw [List.pairwise_append, List.pairwise_append]
          refine ⟨⟨hp, by simp, fun x hx y hy => by simp at hy; rw [hy]; exact hav x hx⟩, by simp, fun x hx y hy => ?_⟩
          simp at hy
          rw [hy]
          rcases List.mem_append.1 hx with hx | hx
          · have := hav x hx; omega
          · simp at hx; omega
        · intro x
          have := hm x
          simp only [List.mem_append, List.mem_singleton, htk]
          simp at this
          rw [this]
          simp
          constructor <;> (intro h; rcases h with (h | h) | h <;> simp [h])
        · simp; simp at hlen; omega
        · intro _ x hx
          have : l[i] < x := by
            obtain ⟨k, hk, rfl⟩ := List.mem_iff_getElem.1 hx
            rw [List.getElem_drop]
            simp at hk
            exact pairwise_getElem hs hi (by omega) (by omega)
          omega
      · rw [if_neg (by simpa using hgt)]
        simp only [Option.bind_some, Bool.false_eq_true, if_false]
        rw [app_of (by simp; omega) (by simp; omega)]
        refine ⟨_, rfl, rfl, ?_, ?_, ?_, ?_, by simp⟩
        · simp only
          rw [List.pairwise_append]
          refine ⟨hp, by simp, fun x hx y hy => ?_⟩
          simp at hy
          rw [hy]
          have := (hm x).1 hx
          exact hlt x (by simpa using this)
        · intro x
          have := hm x
          simp only [List.mem_append, List.mem_singleton, htk]
          simp at this
          rw [this]
          simp
        · simp; simp at hlen; omega
        · intro _ x hx
          rw [htk] at hx
          rcases List.mem_append.1 hx with hx | hx
          · exact hf rfl x hx
          · simp at hx; omega
    · have hlv : v < l[i] := ht rfl _ (by rw [hdr]; exact List.mem_cons_self)
      rw [if_pos (by simpa using hlv)]
      simp only [Bool.not_true, Option.bind_some, Bool.false_eq_true, if_false]
      rw [app_of (by simp; omega) (by simp; omega)]
      refine ⟨_, rfl, rfl, ?_, ?_, ?_, by simp, ?_⟩
      · simp only
        rw [List.pairwise_append]
        refine ⟨hp, by simp, fun x hx y hy => ?_⟩
        simp at hy
        rw [hy]
        rcases (hm x).1 hx with hx | ⟨_, hx⟩
        · exact hlt x hx
        · omega
      · intro x
        have := hm x
        simp only [List.mem_append, List.mem_singleton, htk]
        rw [this]
        simp
        constructor <;> (intro h; rcases h with (h | h) | h <;> simp [h])
      · simp; simp at hlen; omega
      · intro _ x hx
        exact ht rfl x (by rw [hdr]; exact List.mem_cons_of_mem _ hx)) (by
    rintro ⟨acc, inn, j⟩ ⟨hj, hp, hm, hlen, hf, ht⟩
    simp only at hj hp hm hlen hf ht
    subst hj
    unfold spec_l3Put_l1b
    rw [if_neg (by simp)]
    rw [List.take_length] at hm hf
    exact ⟨_, rfl, hp, hm, hlen, hf⟩) l.length 0 (([] : List Int), false, 0) (by omega) ⟨rfl, by simp, by simp, by simp, by simp, by simp⟩
  simp only at h1 h2 h3 h4
  unfold spec_l3Put spec_l3Put_l1
  rw [e]
  simp only [Option.bind_some]
  cases inn
  · simp only [Bool.not_false, if_true]
    simp at h3
    rw [app_of (by simp; omega) (by simp; omega)]
    refine ⟨_, rfl, ?_, ?_, by simp; omega⟩
    · rw [List.pairwise_append]
      refine ⟨h1, by simp, fun x hx y hy => ?_⟩
      simp at hy
      rw [hy]
      have := (h2 x).1 hx
      exact h4 rfl x (by simpa using this)
    · intro x
      have := h2 x
      simp at this
      simp [this]
  · refine ⟨_, rfl, h1, ?_, by simpa using h3⟩
    intro x
    have := h2 x
    simpa using this

/-! ### Words, and the package that they tell -/
def wordsS (s : ByteArray) : List ByteArray := (partsS 32 s).filter (fun w => !(seq w (bs [])))

theorem partsS_size (c : Int) (s : ByteArray) : ∀ p ∈ partsS c s, p.size ≤ s.size := by
  intro p hp
  have hb : bl p ∈ cutL c (bl s) := by
    rw [← partsS_bl]
    exact List.mem_map_of_mem hp
  have := cutL_size c (bl s) _ hb
  rw [bl_length, bl_length] at this
  exact this

theorem wordsS_size (s : ByteArray) : ∀ p ∈ wordsS s, p.size ≤ s.size := fun p hp => partsS_size 32 s p (List.mem_filter.1 hp).1

theorem l2Words_spec (s : ByteArray) (h : s.size ≤ 1048577) : spec_l2Words s = some (wordsS s) := by
  have hl := partsS_len 32 s
  have key := loop_foldI (partsS 32 s) (fun _ l w => if !(seq w (bs [])) then l ++ [w] else l) (fun i l => l.length ≤ i) (b := spec_l2Words_l1b (partsS 32 s)) (by
    intro i l hi hI
    unfold spec_l2Words_l1b
    rw [if_pos (by simp; omega)]
    simp only
    rw [idx_nat hi]
    simp only [Option.bind_some]
    rw [app_of (by simp; omega) (by simp; omega), w64_nat (by omega)]
    cases seq (partsS 32 s)[i] (bs [])
    · exact ⟨rfl, by simp; omega⟩
    · exact ⟨rfl, by simp; omega⟩) (by
    intro l
    unfold spec_l2Words_l1b
    rw [if_neg (by simp)]) (partsS 32 s).length 0 [] (by omega) (by simp)
  unfold spec_l2Words
  rw [l1Parts_spec s 32 h]
  simp only [Option.bind_some]
  unfold spec_l2Words_l1
  rw [show ((0 : Nat) : Int) = 0 from rfl] at key
  rw [key.1, List.drop_zero, foldI_filter (fun w => !(seq w (bs [])))]
  rfl

theorem wordsOf_impl (s : ByteArray) (h : s.size ≤ 1048575) : impl_wordsOf s = some (wordsS s) := by
  have hl := partsS_len 32 s
  have e := Split_impl s 32 (by omega)
  rw [show (((32 : UInt8).toNat : Nat) : Int) = 32 from rfl] at e
  have key := del_gen (fun w : ByteArray => seq w (bs [])) (partsS 32 s) ByteArray.empty (by omega) (b1 := slices_IndexFunc_Lstring_impl_wordsOf_1_l1b (partsS 32 s)) (b2 := slices_DeleteFunc_Lstringr_impl_wordsOf_1_l1b) (by
    intro i hi
    unfold slices_IndexFunc_Lstring_impl_wordsOf_1_l1b impl_wordsOf_1
    rw [if_pos (by simp; omega), idx_nat hi]
    simp only [Option.bind_some]
    rw [w64_nat (by omega)]
    split <;> rfl) (by
    unfold slices_IndexFunc_Lstring_impl_wordsOf_1_l1b
    rw [if_neg (by simp)]) (by
    intro xs i j hj hij hl2 hm
    unfold slices_DeleteFunc_Lstringr_impl_wordsOf_1_l1b impl_wordsOf_1
    simp only
    rw [if_pos (by simp; omega), idx_nat hj]
    simp only [Option.bind_some]
    rw [idx_nat (show i < xs.length by omega), w64_nat (show j < _ by omega), w64_nat (show i < _ by omega)]
    cases seq xs[j] (bs []) <;> simp) (by
    intro xs i hl2
    unfold slices_DeleteFunc_Lstringr_impl_wordsOf_1_l1b
    rw [if_neg (by simp)])
  unfold impl_wordsOf
  rw [show bs [32] = ⟨#[32]⟩ from rfl, e]
  simp only [Option.bind_some]
  have e2 : slices_DeleteFunc_Lstringr_impl_wordsOf_1 (partsS 32 s) = some (wordsS s) := key
  rw [e2]
  rfl

/-- The package that words tell. -/
def readPk (c : List Pack) (w : List ByteArray) : Int := if w.length ≠ 2 then -1 else if (PV (w.getD 1 (bs []))).Code != 0 then -1 else findK c (w.getD 0 (bs [])) (PV (w.getD 1 (bs []))).Version

theorem readPk_bound (c : List Pack) (w : List ByteArray) : readPk c w = -1 ∨ (0 ≤ readPk c w ∧ readPk c w < c.length) := by
  unfold readPk
  split
  · exact .inl rfl
  · split
    · exact .inl rfl
    · exact findK_bound _ _ _

theorem readPack_impl (c : List Pack) (w : List ByteArray) (hc : c.length ≤ 1048576) (hw : ∀ p ∈ w, p.size ≤ 1048577) : impl_readPack c w = some (readPk c w) := by
  unfold impl_readPack readPk
  match w, hw with
  | [], _ => rfl
  | [_], _ => rfl
  | [x, y], hw =>
    have e0 : idx [x, y] 0 = some x := rfl
    have e1 : idx [x, y] 1 = some y := rfl
    rw [if_neg (by simp), e1, e0]
    simp only [Option.bind_some, ParseVersion_impl y (hw y (by simp))]
    rw [if_neg (show ¬ ([x, y].length ≠ 2) by simp)]
    show (if (PV y).Code != 0 then some (-1) else _) = some (if (PV y).Code != 0 then -1 else findK c x (PV y).Version)
    rw [findK_impl c x _ hc]
    cases (PV y).Code != 0 <;> rfl
  | _ :: _ :: _ :: r, _ =>
    rw [if_pos (by simp; omega), if_pos (by simp)]

/-- The reference reads a package within its loop. -/
theorem readPk_spec (c : List Pack) (w : List ByteArray) (hc : c.length ≤ 1048576) (hw : ∀ p ∈ w, p.size ≤ 1048577) : (if (w.length : Int) == 2 then ((idx w 1).bind fun x36 => (spec_ParseVersion x36).bind fun x38 => if x38.Code == 0 then ((idx w 0).bind fun x41 => (spec_l2Find c x41 x38.Version).bind fun x43 => some x43) else (some (-1))) else (some (-1))) = some (readPk c w) := by
  unfold readPk
  match w, hw with
  | [], _ => rfl
  | [_], _ => rfl
  | [x, y], hw =>
    have e0 : idx [x, y] 0 = some x := rfl
    have e1 : idx [x, y] 1 = some y := rfl
    rw [if_pos (by simp), e1, e0]
    simp only [Option.bind_some, ParseVersion_spec y (hw y (by simp))]
    rw [if_neg (show ¬ ([x, y].length ≠ 2) by simp)]
    show (if (PV y).Code == 0 then _ else some (-1)) = some (if (PV y).Code != 0 then -1 else findK c x (PV y).Version)
    rw [findK_spec c x _ hc, bne]
    cases (PV y).Code == 0 <;> rfl
  | _ :: _ :: _ :: r, _ =>
    rw [if_neg (by simp; omega), if_pos (by simp)]

/-! ### A set, read -/
/-- The packages of lines, in their order; the place of the first line that is wrong. -/
def readPs (c : List Pack) : Nat → List Int → List ByteArray → Fl SetResult (List Int)
  | _, out, [] => .nxt out
  | i, out, s :: ps => if readPk c (wordsS s) < 0 ∨ readPk c (wordsS s) ∈ out then .ret { Code := 5, At := i, Set := [] } else readPs c (i + 1) (out ++ [readPk c (wordsS s)]) ps

def setR (t : Fl SetResult (List Int)) : SetResult := match t with
  | .ret r => r
  | .nxt l => { Code := 0, At := 0, Set := l.mergeSort (fun x y => decide (x ≤ y)) }

/-- The set that a text tells. -/
def PS (c : List Pack) (s : ByteArray) : SetResult := if s.size > 4000 then { Code := 2, At := 0, Set := [] } else setR (readPs c 0 [] (linesS s))

theorem readPs_good (c : List Pack) : ∀ (ps : List ByteArray) (i : Nat) (out : List Int), out.Nodup → (∀ k ∈ out, 0 ≤ k ∧ k < c.length) → match readPs c i out ps with
    | .ret r => r.Code = 5 ∧ r.Set = []
    | .nxt l => l.Nodup ∧ (∀ k ∈ l, 0 ≤ k ∧ k < c.length)
  | [], _, out, h1, h2 => ⟨h1, h2⟩
  | s :: ps, i, out, h1, h2 => by
    simp only [readPs]
    split
    · rename_i h
      split at h
      · cases h; exact ⟨rfl, rfl⟩
      · rename_i hn
        rw [not_or] at hn
        have := readPs_good c ps (i + 1) (out ++ [readPk c (wordsS s)]) (by
          rw [List.nodup_append]
          refine ⟨h1, by simp, fun a ha b hb => ?_⟩
          simp only [List.mem_singleton] at hb
          subst hb
          intro e
          subst e
          exact hn.2 ha) (by
          intro k hk
          rcases List.mem_append.1 hk with hk | hk
          · exact h2 k hk
          · simp only [List.mem_singleton] at hk
            subst hk
            rcases readPk_bound c (wordsS s) with h | h
            · omega
            · exact h)
        rw [h] at this
        exact this
    · rename_i l h
      split at h
      · cases h
      · rename_i hn
        rw [not_or] at hn
        have := readPs_good c ps (i + 1) (out ++ [readPk c (wordsS s)]) (by
          rw [List.nodup_append]
          refine ⟨h1, by simp, fun a ha b hb => ?_⟩
          simp only [List.mem_singleton] at hb
          subst hb
          intro e
          subst e
          exact hn.2 ha) (by
          intro k hk
          rcases List.mem_append.1 hk with hk | hk
          · exact h2 k hk
          · simp only [List.mem_singleton] at hk
            subst hk
            rcases readPk_bound c (wordsS s) with h | h
            · omega
            · exact h)
        rw [h] at this
        exact this

theorem sort_of {l : List Int} (h : l.Nodup) : (l.mergeSort (fun x y => decide (x ≤ y))).Pairwise (· < ·) ∧ ∀ x, x ∈ l.mergeSort (fun x y => decide (x ≤ y)) ↔ x ∈ l := by
  have hp : (l.mergeSort (fun x y => decide (x ≤ y))).Perm l := List.mergeSort_perm _ _
  have hs : (l.mergeSort (fun x y => decide (x ≤ y))).Pairwise (fun x y => (decide (x ≤ y)) = true) := List.pairwise_mergeSort (fun a b c h1 h2 => by simp at h1 h2 ⊢; omega) (fun a b => by simp; omega) l
  have hn : (l.mergeSort (fun x y => decide (x ≤ y))).Nodup := hp.nodup_iff.2 h
  refine ⟨?_, fun x => hp.mem_iff⟩
  rw [List.pairwise_iff_getElem] at hs ⊢
  intro i j hi hj hij
  have h1 := hs i j hi hj hij
  have h2 := (List.pairwise_iff_getElem.1 hn) i j hi hj hij
  simp only [decide_eq_true_eq] at h1
  omega

theorem PS_cases (c : List Pack) (s : ByteArray) : (((PS c s).Code = 2 ∨ (PS c s).Code = 5) ∧ (PS c s).Set = []) ∨ (PS c s).Code = 0 ∧ (PS c s).At = 0 ∧ (PS c s).Set.Pairwise (· < ·) ∧ ∀ k ∈ (PS c s).Set, 0 ≤ k ∧ k < c.length := by
  have key : ∀ r, r = PS c s → ((r.Code = 2 ∨ r.Code = 5) ∧ r.Set = []) ∨ r.Code = 0 ∧ r.At = 0 ∧ r.Set.Pairwise (· < ·) ∧ ∀ k ∈ r.Set, 0 ≤ k ∧ k < c.length := by
    intro r hr
    unfold PS at hr
    split at hr
    · subst hr
      exact .inl ⟨.inl rfl, rfl⟩
    · have := readPs_good c (linesS s) 0 [] (by simp) (by simp)
      cases h : readPs c 0 [] (linesS s) with
      | ret q =>
        rw [h] at this hr
        simp only [setR] at hr
        subst hr
        exact .inl ⟨.inr this.1, this.2⟩
      | nxt l =>
        rw [h] at this hr
        simp only [setR] at hr
        subst hr
        obtain ⟨h1, h2⟩ := sort_of this.1
        exact .inr ⟨rfl, rfl, h1, fun k hk => this.2 k ((h2 k).1 hk)⟩
  exact key _ rfl

section
variable {c : List Pack} (hc : c.length ≤ 1048576)
include hc
theorem l3Parse_loop (ps : List ByteArray) (hps : ∀ p ∈ ps, p.size ≤ 100000) (hl : ps.length ≤ 100000) : ∀ (k i : Nat) (S out : List Int), i + k = ps.length → out.length ≤ i → S.length ≤ i → S.Pairwise (· < ·) → (∀ x, x ∈ S ↔ x ∈ out) →
    ∃ t, loop (spec_l3Parse_l1b c ps) (S, (i : Int)) = some t ∧ match readPs c i out (ps.drop i) with
      | .ret r => t = .ret r
      | .nxt l => ∃ S', t = .nxt S' ∧ S'.Pairwise (· < ·) ∧ ∀ x, x ∈ S' ↔ x ∈ l
  | 0, i, S, out, hk, ho, hS, h1, h2 => by
    have e : i = ps.length := by omega
    subst e
    rw [loop_eq]
    unfold spec_l3Parse_l1b
    rw [if_neg (by simp), List.drop_length]
    exact ⟨_, rfl, S, rfl, h1, h2⟩
  | k + 1, i, S, out, hk, ho, hS, h1, h2 => by
    have hi : i < ps.length := by omega
    have hm := List.getElem_mem hi
    have hw := wordsS_size ps[i]
    have hps1 := hps _ hm
    have hb : spec_l3Parse_l1b c ps (S, (i : Int)) = if readPk c (wordsS ps[i]) < 0 ∨ readPk c (wordsS ps[i]) ∈ S then some (.done (.ret { Code := 5, At := i, Set := [] })) else (spec_l3Put S (readPk c (wordsS ps[i]))).bind fun x51 => some (.go (x51, ((i + 1 : Nat) : Int))) := by
      unfold spec_l3Parse_l1b
      rw [if_pos (by simp; omega), idx_nat hi]
      simp only [Option.bind_some, l2Words_spec _ (show ps[i].size ≤ 1048577 by omega)]
      rw [readPk_spec c _ hc (fun p hp => by have := hw p hp; omega)]
      simp only [Option.bind_some]
      by_cases hneg : readPk c (wordsS ps[i]) < 0
      · rw [if_pos (by simpa using hneg), if_pos (.inl hneg)]
        rfl
      · rw [if_neg (by simpa using hneg), l1Has_eq S _ (by omega), w64_nat (by omega)]
        simp only [Option.bind_some]
        by_cases hmem : readPk c (wordsS ps[i]) ∈ S
        · rw [if_pos (by simpa using hmem), if_pos (.inr hmem)]
        · rw [if_neg (by simpa using hmem), if_neg (by rw [not_or]; exact ⟨hneg, hmem⟩)]
    rw [loop_eq, hb, List.drop_eq_getElem_cons hi]
    simp only [readPs]
    by_cases hbad : readPk c (wordsS ps[i]) < 0 ∨ readPk c (wordsS ps[i]) ∈ out
    · rw [if_pos hbad, if_pos (by rw [h2]; exact hbad)]
      exact ⟨_, rfl, rfl⟩
    · have hbad2 : ¬ (readPk c (wordsS ps[i]) < 0 ∨ readPk c (wordsS ps[i]) ∈ S) := by rw [h2]; exact hbad
      rw [if_neg hbad, if_neg hbad2]
      obtain ⟨r, er, r1, r2, r3⟩ := put_spec S (readPk c (wordsS ps[i])) h1 (fun h => hbad2 (.inr h)) (by omega)
      rw [er]
      simp only [Option.bind_some, Lp.elim]
      refine l3Parse_loop ps hps hl k (i + 1) r (out ++ [readPk c (wordsS ps[i])]) (by omega) (by simp; omega) (by omega) r1 (fun x => ?_)
      rw [r2, h2, List.mem_append, List.mem_singleton]
end

section
variable {c : List Pack} (hc : c.length ≤ 1048576)
include hc
theorem l3Parse_spec (s : ByteArray) (h : s.size ≤ 90000) : spec_l3Parse c s = some (PS c s) := by
  unfold spec_l3Parse PS
  by_cases h4 : s.size > 4000
  · rw [if_pos (by simp; omega), if_pos h4]
  · rw [if_neg (by simp; omega), if_neg h4, l2Lines_spec s (by omega)]
    simp only [Option.bind_some]
    have hlen := linesS_len s
    obtain ⟨t, e, ht⟩ := l3Parse_loop hc (linesS s) (fun p hp => by have := linesS_size s p hp; omega) (by omega) (linesS s).length 0 [] [] (by omega) (by simp) (by simp) (by simp) (by simp)
    rw [List.drop_zero] at ht
    unfold spec_l3Parse_l1
    rw [show ((0 : Nat) : Int) = 0 from rfl] at e
    rw [e]
    have hg := readPs_good c (linesS s) 0 [] (by simp) (by simp)
    cases hr : readPs c 0 [] (linesS s) with
    | ret r =>
      rw [hr] at ht
      simp only at ht
      subst ht
      rfl
    | nxt l =>
      rw [hr] at ht hg
      obtain ⟨S', rfl, h1, h2⟩ := ht
      obtain ⟨g1, g2⟩ := sort_of hg.1
      have : S' = l.mergeSort (fun x y => decide (x ≤ y)) := sorted_ext h1 g1 (fun x => by rw [h2, g2])
      subst this
      rfl
end

section
variable {c : List Pack} (hc : c.length ≤ 1048576)
include hc
theorem ParseSet_loop (ps : List ByteArray) (hps : ∀ p ∈ ps, p.size ≤ 100000) (hl : ps.length ≤ 100000) : ∀ (k i : Nat) (out : List Int), i + k = ps.length → out.length ≤ i → loop (impl_ParseSet_l1b c ps) (out, (i : Int)) = some (readPs c i out (ps.drop i))
  | 0, i, out, hk, ho => by
    have e : i = ps.length := by omega
    subst e
    rw [loop_eq]
    unfold impl_ParseSet_l1b
    rw [if_neg (by simp), List.drop_length]
    rfl
  | k + 1, i, out, hk, ho => by
    have hi : i < ps.length := by omega
    have hm := List.getElem_mem hi
    have hw := wordsS_size ps[i]
    have hps1 := hps _ hm
    have hb : impl_ParseSet_l1b c ps (out, (i : Int)) = if readPk c (wordsS ps[i]) < 0 ∨ readPk c (wordsS ps[i]) ∈ out then some (.done (.ret { Code := 5, At := i, Set := [] })) else some (.go (out ++ [readPk c (wordsS ps[i])], ((i + 1 : Nat) : Int))) := by
      unfold impl_ParseSet_l1b
      rw [if_pos (by simp; omega), idx_nat hi]
      simp only [Option.bind_some, wordsOf_impl _ (show ps[i].size ≤ 1048575 by omega)]
      rw [readPack_impl c _ hc (fun p hp => by have := hw p hp; omega)]
      simp only [Option.bind_some]
      rw [app_of (by simp; omega) (by simp; omega), w64_nat (by omega)]
      by_cases hneg : readPk c (wordsS ps[i]) < 0
      · rw [if_pos (by simpa using hneg), if_pos (.inl hneg)]
        rfl
      · rw [if_neg (by simpa using hneg), Index_eq out _ (by omega)]
        simp only [Option.bind_some]
        by_cases hmem : readPk c (wordsS ps[i]) ∈ out
        · rw [if_pos (by simpa using hmem), if_pos (.inr hmem)]
        · rw [if_neg (by simpa using hmem), if_neg (by rw [not_or]; exact ⟨hneg, hmem⟩)]
    rw [loop_eq, hb, List.drop_eq_getElem_cons hi]
    simp only [readPs]
    by_cases hbad : readPk c (wordsS ps[i]) < 0 ∨ readPk c (wordsS ps[i]) ∈ out
    · rw [if_pos hbad, if_pos hbad]
      rfl
    · rw [if_neg hbad, if_neg hbad]
      simp only [Option.bind_some, Lp.elim]
      exact ParseSet_loop ps hps hl k (i + 1) (out ++ [readPk c (wordsS ps[i])]) (by omega) (by simp; omega)
end

theorem ParseSet_impl {c : List Pack} (hC : Cat c) (s : ByteArray) (h : s.size ≤ 90000) : impl_ParseSet c s = some (if CF c != 0 then { Code := CF c, At := 0, Set := [] } else PS c s) := by
  have hc := hC.1
  unfold impl_ParseSet PS
  rw [CatalogFault_impl c hC]
  simp only [Option.bind_some]
  cases CF c != 0
  case true => rfl
  simp only [Bool.false_eq_true, if_false]
  by_cases h4 : s.size > 4000
  · rw [if_pos (by simp; omega), if_pos h4]
  · rw [if_neg (by simp; omega), if_neg h4, linesOf_impl s (by omega)]
    simp only [Option.bind_some]
    have hlen := linesS_len s
    have e := ParseSet_loop hc (linesS s) (fun p hp => by have := linesS_size s p hp; omega) (by omega) (linesS s).length 0 [] (by omega) (by simp)
    rw [List.drop_zero, show ((0 : Nat) : Int) = 0 from rfl] at e
    unfold impl_ParseSet_l1
    rw [e]
    have hlp : ∀ (ps : List ByteArray) (i : Nat) (out l : List Int), readPs c i out ps = .nxt l → l.length ≤ out.length + ps.length := by
      intro ps
      induction ps with
      | nil => intro i out l h; cases h; simp
      | cons s ps ih =>
        intro i out l h
        simp only [readPs] at h
        split at h
        · cases h
        · have := ih _ _ _ h
          simp at this ⊢
          omega
    cases hr : readPs c 0 [] (linesS s) with
    | ret r => rfl
    | nxt l =>
      have hl := hlp _ _ _ _ hr
      simp only [Option.bind_some, Fl.go]
      unfold slices_Sort_Lint64r
      rw [if_pos (by simp at hl; omega)]
      simp only [Option.bind_some]
      rw [same_of (by rw [List.length_mergeSort])]
      rfl

/-! ### The set of a generation -/
theorem genOf_genL {l : List Int} {n : Int} (hp : l.take 4 = genP) (hl : 4 ≤ l.length) (h : genOf l = some n) : l = genL n ∧ 1 ≤ n ∧ n ≤ 999999 := by
  unfold genOf at h
  cases hn : numL (l.drop 4) 6 with
  | none => rw [hn] at h; cases h
  | some m =>
    rw [hn] at h
    simp only at h
    split at h
    · rename_i hc
      cases h
      have e := (gen_iff hp hl hn).2 hc
      by_cases hr : 1 ≤ n ∧ n ≤ 999999
      · rw [if_pos hr] at e
        refine ⟨?_, hr⟩
        have hpd := decL_pad 5 n.toNat (by omega)
        rw [show 10 ^ (5 + 1) + n.toNat = 1000000 + n.toNat by omega] at hpd
        rw [← e, hpd]
        rfl
      · rw [if_neg hr] at e
        rw [← e] at hc
        simp at hc
    · cases h

theorem gens_file {fs : List File} {n : Int} (h : n ∈ gensL fs) : (∃ f ∈ fs, f.Path = genS n) ∧ 1 ≤ n ∧ n ≤ 999999 := by
  unfold gensL at h
  obtain ⟨p, hp, hg⟩ := List.mem_filterMap.1 h
  have hb := begins_bl (pathsOf_mem p hp)
  rw [bl_gen] at hb
  obtain ⟨e, h1⟩ := genOf_genL hb.1 hb.2 hg
  refine ⟨?_, h1⟩
  unfold pathsOf at hp
  obtain ⟨f, hf, rfl⟩ := List.mem_map.1 hp
  exact ⟨f, (List.mem_filter.1 hf).1, bl_inj.1 (e.trans (bl_genS n).symm)⟩

def codeS (c : Int) : SetResult := { Code := c, At := 0, Set := [] }

/-- The set of a generation. -/
def setOfD (c : List Pack) (d : Disk) (n : Int) : SetResult := if n ∈ gensL d.Files then (match fileOf d (genS n) with
  | some f => if (PS c (b2s f.Data)).Code != 0 then codeS (PS c (b2s f.Data)).Code else PS c (b2s f.Data)
  | none => codeS 0) else codeS 4

theorem setOfD_good (c : List Pack) (d : Disk) (n : Int) : ((setOfD c d n).Code ≠ 0 → (setOfD c d n).Set = []) ∧ (setOfD c d n).At = 0 ∧ (setOfD c d n).Set.Pairwise (· < ·) ∧ (∀ k ∈ (setOfD c d n).Set, 0 ≤ k ∧ k < c.length) := by
  have key : ∀ r, r = setOfD c d n → (r.Code ≠ 0 → r.Set = []) ∧ r.At = 0 ∧ r.Set.Pairwise (· < ·) ∧ (∀ k ∈ r.Set, 0 ≤ k ∧ k < c.length) := by
    intro r hr
    have hcode : ∀ x, (codeS x).Set = [] ∧ (codeS x).At = 0 := fun x => ⟨rfl, rfl⟩
    unfold setOfD at hr
    split at hr
    · split at hr
      · split at hr
        · subst hr; exact ⟨fun _ => rfl, rfl, by rw [(hcode _).1]; simp, by rw [(hcode _).1]; simp⟩
        · rename_i f _ hc
          subst hr
          rcases PS_cases c (b2s f.Data) with ⟨h, _⟩ | ⟨h1, h2, h3, h4⟩
          · rcases h with h | h <;> rw [h] at hc <;> simp at hc
          · exact ⟨fun h => absurd h1 h, h2, h3, h4⟩
      · subst hr; exact ⟨fun _ => rfl, rfl, by rw [(hcode _).1]; simp, by rw [(hcode _).1]; simp⟩
    · subst hr; exact ⟨fun _ => rfl, rfl, by rw [(hcode _).1]; simp, by rw [(hcode _).1]; simp⟩
  exact key _ rfl

theorem file_there {d : Disk} (hg : d.good) {p : ByteArray} (h : ∃ f ∈ d.Files, f.Path = p) : ∃ k : Nat, ∃ hk : k < d.Files.length, spec_l7Find d p = some (k : Int) ∧ impl_Disk_data d p = some (d.Files[k].Data, true) ∧ fileOf d p = some d.Files[k] := by
  rcases file_both d p hg with h1 | ⟨_, _, h3⟩
  · exact h1
  · obtain ⟨f, hf, hp⟩ := h
    unfold fileOf at h3
    have := List.find?_eq_none.1 h3 f hf
    simp [hp] at this

section
variable {c : List Pack} {d : Disk} (hc : c.length ≤ 1048576) (hg : d.good) (hb : Byt d)
include hc hg hb in
theorem l8Set_spec (n : Int) : spec_l8Set c d n = some (setOfD c d n) := by
  have hfl : d.Files.length ≤ 1048576 := by have := hg.len; omega
  have hgl := gensL_length d.Files
  unfold spec_l8Set setOfD
  rw [l8Gens_eq d hfl]
  simp only [Option.bind_some]
  rw [l1Has_eq _ _ (by omega)]
  simp only [Option.bind_some]
  by_cases hm : n ∈ gensL d.Files
  · obtain ⟨hf, h1, h2⟩ := gens_file hm
    obtain ⟨k, hk, e1, _, e3⟩ := file_there hg hf
    have hmem := List.getElem_mem hk
    have hdat := hg.data _ hmem
    rw [if_neg (by simpa using hm), if_pos hm, GenPath_spec, show inB n 1 999999 = true by unfold inB; simp; omega]
    simp only [Option.bind_some, if_true, e1]
    rw [idx_nat hk]
    simp only [Option.bind_some]
    rw [l3Parse_spec hc _ (by rw [← bl_length, bl_b2s (hb _ hmem)]; omega), e3]
    simp only [Option.bind_some]
    cases (PS c (b2s d.Files[k].Data)).Code != 0 <;> rfl
  · rw [if_pos (by simpa using hm), if_neg hm]
    rfl
end

section
variable {c : List Pack} {d : Disk} (hc : c.length ≤ 1048576) (hg : d.good) (hb : Byt d)
include hg hb in
theorem setOf_impl (hC : Cat c) (h0 : CF c = 0) (n : Int) : impl_setOf c d n = some ((setOfD c d n).Set, (setOfD c d n).Code) := by
  have hfl : d.Files.length ≤ 1048576 := by have := hg.len; omega
  have hgl := gensL_length d.Files
  unfold impl_setOf setOfD
  rw [gens_eq d hfl]
  simp only [Option.bind_some]
  rw [Index_eq _ _ (by omega)]
  simp only [Option.bind_some]
  by_cases hm : n ∈ gensL d.Files
  · obtain ⟨hf, h1, h2⟩ := gens_file hm
    obtain ⟨k, hk, _, e2, e3⟩ := file_there hg hf
    have hmem := List.getElem_mem hk
    have hdat := hg.data _ hmem
    rw [if_neg (by simpa using hm), if_pos hm, genPath_impl (by omega) h2]
    simp only [Option.bind_some, e2]
    rw [ParseSet_impl hC _ (by rw [← bl_length, bl_b2s (hb _ hmem)]; omega), e3, h0]
    simp only [bne_self_eq_false, Bool.false_eq_true, if_false, Option.bind_some]
    rcases PS_cases c (b2s d.Files[k].Data) with ⟨h, h'⟩ | ⟨h, _⟩
    · have hn : ((PS c (b2s d.Files[k].Data)).Code != 0) = true := by rcases h with h | h <;> rw [h] <;> rfl
      rw [hn, h']
      rfl
    · simp [h]
  · rw [if_pos (by simpa using hm), if_neg hm]
    rfl
end

/-- All that a catalog and a disk tell first. -/
theorem asked_cases {c : List Pack} {d : Disk} (hC : Cat c) (hd : Disk.sm 1048576 d) : (∃ q, q ≠ 0 ∧ spec_l8Asked c d = some q ∧ impl_bothCode c d = some q) ∨ (spec_l8Asked c d = some 0 ∧ impl_bothCode c d = some 0 ∧ CF c = 0 ∧ d.good) := by
  obtain ⟨k, ek, hk⟩ := DiskFault_spec d hd.1.1
  rw [Asked_spec hC k ek, both_impl hC k ek]
  by_cases h0 : CF c = 0
  · by_cases h1 : k = 0
    · exact .inr ⟨by simp [h0, h1], by simp [h0, h1], h0, hk h1⟩
    · exact .inl ⟨k, h1, by simp [h0], by simp [h0]⟩
  · exact .inl ⟨CF c, h0, by simp [h0], by simp [h0]⟩

theorem SetResult_sm {r : SetResult} (h : r.Set.length ≤ 1048576) : SetResult.sm 1049600 r := ⟨trivial, trivial, by omega, fun _ _ => trivial⟩

theorem rise_cat {c : List Pack} {l : List Int} (hc : c.length ≤ 1048576) (h1 : l.Pairwise (· < ·)) (h2 : ∀ k ∈ l, 0 ≤ k ∧ k < c.length) : l.length ≤ 1048576 := by
  rcases rise_len (lo := 0) (hi := c.length) h1 h2 with h | h
  · omega
  · rw [h]; simp

theorem SetOfGen_both (a1 : (List Pack)) (a2 : Disk) (a3 : Int) (k0 : a1.length ≤ maxLen ∧ ∀ y1 ∈ a1, Pack.ok y1) (k1 : Disk.ok a2) (k2 : IntKind.i64.min ≤ a3 ∧ a3 ≤ IntKind.i64.max) (s0 : (a1.length ≤ 1048576 ∧ ∀ y0 ∈ a1, Pack.sm 1048576 y0)) (s1 : (Disk.sm 1048576 a2)) (s2 : (True)) : ∃ r, spec_SetOfGen a1 a2 a3 = some r ∧ impl_SetOfGen a1 a2 a3 = some r ∧ (SetResult.sm 1049600 r) := by
  have hb : Byt a2 := fun f hf c hc => by have := (k1.1.2 f hf).2.2 c hc; simpa [IntKind.min, IntKind.max, IntKind.signed, IntKind.bits] using this
  unfold spec_SetOfGen impl_SetOfGen
  rcases asked_cases s0 s1 with ⟨q, h, e1, e2⟩ | ⟨e1, e2, h0, hg⟩
  · rw [e1, e2]
    have hn : (q != 0) = true := by simpa using h
    simp only [Option.bind_some, hn, if_true]
    exact ⟨_, rfl, rfl, SetResult_sm (by simp)⟩
  · rw [e1, e2]
    simp only [Option.bind_some, bne_self_eq_false, Bool.false_eq_true, if_false]
    rw [l8Set_spec s0.1 hg hb, setOf_impl hg hb s0 h0]
    obtain ⟨h1, h2, h3, h4⟩ := setOfD_good a1 a2 a3
    simp only [Option.bind_some]
    refine ⟨_, rfl, ?_, SetResult_sm (rise_cat s0.1 h3 h4)⟩
    congr 1
    cases hs : setOfD a1 a2 a3 with
    | mk x y z => rw [hs] at h2; simp only at h2; rw [h2]

theorem FnExactSetOfGen_law (a1 : (List Pack)) (a2 : Disk) (a3 : Int) (k0 : a1.length ≤ maxLen ∧ ∀ y1 ∈ a1, Pack.ok y1) (k1 : Disk.ok a2) (k2 : IntKind.i64.min ≤ a3 ∧ a3 ≤ IntKind.i64.max) : laws_FnExactSetOfGen a1 a2 a3 = some true := FnExactSetOfGen_true a1 a2 a3 k0 k1 k2 (SetOfGen_both a1 a2 a3 k0 k1 k2)
end Go.Told

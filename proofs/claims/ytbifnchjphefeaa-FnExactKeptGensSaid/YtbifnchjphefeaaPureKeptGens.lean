import Derived.Test.YtbifnchjphefeaaToldKeptGens
set_option linter.unusedVariables false
set_option maxRecDepth 4000
namespace Go.Told
open Go Go.Im

/-! ### Loops and lists in general -/
theorem loop_congr {S T : Type} {b b' : S → Option (Lp S T)} (h : ∀ s, b s = b' s) : loop b = loop b' := by
  have : b = b' := funext h
  rw [this]

theorem w64_of {x : Int} (h1 : -9223372036854775808 ≤ x) (h2 : x ≤ 9223372036854775807) : w64 x = x := by
  unfold w64
  rw [IntKind.wrap_i64]
  omega

theorem w64_nat {i : Nat} (h : i < 9223372036854775807) : w64 ((i : Int) + 1) = ((i + 1 : Nat) : Int) := by
  rw [w64_of (by omega) (by omega)]; omega

/-- Going through a list from the front. -/
theorem loop_up {T : Type} {S : Type} {b : S → Option (Lp S T)} (I : Nat → S → Prop) (n : Nat) (Q : T → Prop) (hstep : ∀ i s, i < n → I i s → (∃ s', b s = some (.go s') ∧ I (i + 1) s') ∨ ∃ t, b s = some (.done t) ∧ Q t)
    (hend : ∀ s, I n s → ∃ t, b s = some (.done t) ∧ Q t) : ∀ (k i : Nat) (s : S), i + k = n → I i s → ∃ t, loop b s = some t ∧ Q t
  | 0, i, s, hk, hI => by
    obtain ⟨t, h1, h2⟩ := hend s (by rw [show n = i by omega]; exact hI)
    exact ⟨t, by rw [loop_eq, h1]; rfl, h2⟩
  | k + 1, i, s, hk, hI => by
    rcases hstep i s (by omega) hI with ⟨s', h1, h2⟩ | ⟨t, h1, h2⟩
    · obtain ⟨t, h3, h4⟩ := loop_up I n Q hstep hend k (i + 1) s' (by omega) h2
      exact ⟨t, by rw [loop_eq, h1]; exact h3, h4⟩
    · exact ⟨t, by rw [loop_eq, h1]; rfl, h2⟩

theorem idx_nat {α : Type} {xs : List α} {i : Nat} (h : i < xs.length) : idx xs (i : Int) = some xs[i] := by
  unfold idx
  rw [if_pos (by omega)]
  simp [h]

theorem idx_append {α : Type} (l r : List α) (x : α) : idx (l ++ x :: r) (l.length : Int) = some x := by
  rw [idx_nat (by simp)]
  simp

/-- What a walk over a list comes to. -/
def goL {α A T : Type} (g : Nat → A → α → Lp A T) (fin : A → T) : Nat → List α → A → T
  | _, [], a => fin a
  | i, x :: xs, a => match g i a x with
    | .go a' => goL g fin (i + 1) xs a'
    | .done t => t

theorem loop_goL {α A S T : Type} (xs : List α) (g : Nat → A → α → Lp A T) (fin : A → T) (e : Nat → A → S) (I : Nat → A → Prop) {b : S → Option (Lp S T)}
    (hstep : ∀ (i : Nat) (a : A) (hi : i < xs.length), I i a → b (e i a) = some (match g i a xs[i] with | .go a' => .go (e (i + 1) a') | .done t => .done t) ∧ ∀ a', g i a xs[i] = .go a' → I (i + 1) a')
    (hend : ∀ a, I xs.length a → b (e xs.length a) = some (.done (fin a))) : ∀ (k i : Nat) (a : A), i + k = xs.length → I i a → loop b (e i a) = some (goL g fin i (xs.drop i) a)
  | 0, i, a, hk, hI => by
    have : i = xs.length := by omega
    subst this
    rw [loop_eq, hend a hI, List.drop_length]; rfl
  | k + 1, i, a, hk, hI => by
    have hi : i < xs.length := by omega
    obtain ⟨h1, h2⟩ := hstep i a hi hI
    rw [loop_eq, h1, List.drop_eq_getElem_cons hi]
    simp only [goL]
    cases hg : g i a xs[i] with
    | go a' =>
      simp only [Option.bind_some, Lp.elim]
      exact loop_goL xs g fin e I hstep hend k (i + 1) a' (by omega) (h2 a' hg)
    | done t => rfl

theorem loop_list {α A S T : Type} (xs : List α) (g : Nat → A → α → Lp A T) (fin : A → T) (e : Nat → A → S) (I : Nat → A → Prop) {b : S → Option (Lp S T)} (a0 : A)
    (hstep : ∀ (i : Nat) (a : A) (hi : i < xs.length), I i a → b (e i a) = some (match g i a xs[i] with | .go a' => .go (e (i + 1) a') | .done t => .done t) ∧ ∀ a', g i a xs[i] = .go a' → I (i + 1) a')
    (hend : ∀ a, I xs.length a → b (e xs.length a) = some (.done (fin a))) (h0 : I 0 a0) : loop b (e 0 a0) = some (goL g fin 0 xs a0) := by
  have := loop_goL xs g fin e I hstep hend xs.length 0 a0 (by omega) h0
  simpa using this

/-- A list that is copied element by element. -/
theorem to_loop {α : Type} (xs : List α) {b : (List α × Int) → Option (Lp (List α × Int) (List α))} (hstep : ∀ (ys : List α) (i : Nat) (hi : i < xs.length), ys.length = xs.length → b (ys, (i : Int)) = some (.go (ys.set i xs[i], ((i + 1 : Nat) : Int))))
    (hend : ∀ ys : List α, ys.length = xs.length → b (ys, (xs.length : Int)) = some (.done ys)) (y0 : List α) (h0 : y0.length = xs.length) : loop b (y0, 0) = some xs := by
  obtain ⟨t, h1, h2⟩ := loop_up (b := b) (fun i s => s.2 = (i : Int) ∧ s.1.length = xs.length ∧ s.1.take i = xs.take i) xs.length (fun t => t = xs) (by
    rintro i ⟨ys, j⟩ hi ⟨hj, hl, hp⟩
    simp only at hj hl hp
    subst hj
    refine .inl ⟨_, hstep ys i hi hl, rfl, by simpa using hl, ?_⟩
    simp only
    rw [List.take_succ_eq_append_getElem (by simp; omega), List.take_succ_eq_append_getElem hi, ← hp, List.take_set_of_le (Nat.le_refl _)]
    simp) (by
    rintro ⟨ys, j⟩ ⟨hj, hl, hp⟩
    simp only at hj hl hp
    subst hj
    refine ⟨ys, hend ys hl, ?_⟩
    rw [List.take_of_length_le (by omega), List.take_of_length_le (by omega)] at hp
    exact hp) xs.length 0 (y0, 0) (by omega) ⟨rfl, h0, by simp⟩
  rw [h1, h2]

/-- Two lists held against each other that are one. -/
theorem eq_loop {R : Type} (n : Nat) {b : Int → Option (Lp Int (Fl R Unit))} (hstep : ∀ i : Nat, i < n → b (i : Int) = some (.go ((i + 1 : Nat) : Int))) (hend : b (n : Int) = some (.done (.nxt ()))) : loop b 0 = some (.nxt ()) := by
  obtain ⟨t, h1, h2⟩ := loop_up (b := b) (fun i s => s = (i : Int)) n (fun t => t = .nxt ()) (by
    rintro i s hi rfl
    exact .inl ⟨_, hstep i hi, rfl⟩) (by
    rintro s rfl
    exact ⟨_, hend, rfl⟩) n 0 0 (by omega) rfl
  rw [h1, h2]

/-- What is left of a size. -/
theorem sz_loop {α : Type} (xs : List α) (P : α → Prop) (l : Int) {b : (Int × Int) → Option (Lp (Int × Int) (Fl Int Int))}
    (hstep : ∀ (q : Int) (i : Nat) (hi : i < xs.length), 0 ≤ q → q ≤ l → (∃ q', b (q, (i : Int)) = some (.go (q', ((i + 1 : Nat) : Int))) ∧ 0 ≤ q' ∧ q' ≤ q ∧ P xs[i]) ∨ ∃ t, b (q, (i : Int)) = some (.done (.ret t)) ∧ t < 0)
    (hend : ∀ q : Int, b (q, (xs.length : Int)) = some (.done (.nxt q))) (h0 : 0 ≤ l) :
    ∃ t, loop b (l, 0) = some t ∧ match t with | .ret r => r < 0 | .nxt r => 0 ≤ r ∧ r ≤ l ∧ ∀ x ∈ xs, P x := by
  refine loop_up (b := b) (fun i s => s.2 = (i : Int) ∧ 0 ≤ s.1 ∧ s.1 ≤ l ∧ ∀ j, (hj : j < xs.length) → j < i → P xs[j]) xs.length _ (by
    rintro i ⟨q, j⟩ hi ⟨hj, h1, h2, h3⟩
    simp only at hj h1 h2 h3
    subst hj
    rcases hstep q i hi h1 h2 with ⟨q', e, g1, g2, g3⟩ | ⟨t, e, ht⟩
    · refine .inl ⟨_, e, rfl, g1, by simp only; omega, fun j hj hji => ?_⟩
      rcases Nat.lt_or_ge j i with h | h
      · exact h3 j hj h
      · have : j = i := by omega
        subst this; exact g3
    · exact .inr ⟨_, e, ht⟩) (by
    rintro ⟨q, j⟩ ⟨hj, h1, h2, h3⟩
    simp only at hj h1 h2 h3
    subst hj
    refine ⟨_, hend q, h1, h2, fun x hx => ?_⟩
    obtain ⟨j, hj, rfl⟩ := List.getElem_of_mem hx
    exact h3 j hj hj) xs.length 0 (l, 0) (by omega) ⟨rfl, h0, Int.le_refl _, fun j _ h => by omega⟩

/-! ### Marks -/
def pm {α : Type} (m : α → Int → α) (c : α → Int) : List α → Int → List α
  | [], _ => []
  | x :: xs, k => m x k :: pm m c xs (k + c x)

def cs {α : Type} (c : α → Int) : List α → Int
  | [] => 0
  | x :: xs => c x + cs c xs

theorem pm_length {α : Type} (m : α → Int → α) (c : α → Int) : ∀ (xs : List α) (k : Int), (pm m c xs k).length = xs.length
  | [], _ => rfl
  | x :: xs, k => by simp [pm, pm_length m c xs]

theorem cs_nonneg {α : Type} {c : α → Int} (hc : ∀ a, 0 ≤ c a) : ∀ (xs : List α), 0 ≤ cs c xs
  | [] => Int.le_refl _
  | x :: xs => by have := hc x; have := cs_nonneg hc xs; simp only [cs]; omega

theorem cs_le {α : Type} {c : α → Int} {C : Int} {N : Nat} (hC : 0 ≤ C) : ∀ (xs : List α), (∀ a ∈ xs, c a ≤ C) → xs.length ≤ N → cs c xs ≤ N * C
  | [], _, _ => Int.mul_nonneg (by omega) hC
  | x :: xs, h, hl => by
    have h1 := h x (by simp)
    simp only [List.length_cons] at hl
    have h2 := cs_le (N := N - 1) hC xs (fun a ha => h a (by simp [ha])) (by omega)
    simp only [cs]
    have : ((N - 1 : Nat) : Int) * C + C = N * C := by
      have e : ((N - 1 : Nat) : Int) = (N : Int) - 1 := by omega
      rw [e, Int.sub_mul, Int.one_mul]; omega
    omega

theorem mark_loop {α : Type} (m : α → Int → α) (c : α → Int) (P : α → Prop) (hc : ∀ a, 0 ≤ c a) {b : (List α × Int × Int) → Option (Lp (List α × Int × Int) (List α × Int))}
    (hstep : ∀ (l r : List α) (x : α) (k : Int), P x → 0 ≤ k → k + c x ≤ 9223372036854775807 → l.length < 9223372036854775807 → b (l ++ x :: r, k, (l.length : Int)) = some (.go (l ++ m x k :: r, k + c x, ((l.length + 1 : Nat) : Int))))
    (hend : ∀ (l : List α) (k : Int), b (l, k, (l.length : Int)) = some (.done (l, k))) : ∀ (xs l : List α) (k : Int), (∀ x ∈ xs, P x) → 0 ≤ k → k + cs c xs ≤ 9223372036854775807 → l.length + xs.length < 9223372036854775807 →
    loop b (l ++ xs, k, (l.length : Int)) = some (l ++ pm m c xs k, k + cs c xs)
  | [], l, k, _, _, _, _ => by
    rw [loop_eq, List.append_nil, hend]
    simp [pm, cs, Lp.elim]
  | x :: xs, l, k, hP, h0, h1, h2 => by
    have hx := hc x
    have hxs := cs_nonneg hc xs
    simp only [cs] at h1
    simp only [List.length_cons] at h2
    rw [loop_eq, hstep l xs x k (hP x (by simp)) h0 (by omega) (by omega)]
    simp only [Option.bind_some, Lp.elim]
    have := mark_loop m c P hc hstep hend xs (l ++ [m x k]) (k + c x) (fun y hy => hP y (by simp [hy])) (by omega) (by omega) (by simp; omega)
    simp only [List.length_append, List.length_cons, List.length_nil, List.append_assoc, List.cons_append, List.nil_append] at this
    rw [this]
    simp only [pm, cs]
    congr 2
    omega

theorem held_loop {α : Type} (m : α → Int → α) (c : α → Int) (P : α → Prop) (hc : ∀ a, 0 ≤ c a) {b : List α → (Int × Int) → Option (Lp (Int × Int) (Fl Int Int))}
    (hstep : ∀ (l r : List α) (x : α) (k : Int), P x → 0 ≤ k → k + c x ≤ 9223372036854775807 → l.length < 9223372036854775807 → b (l ++ m x k :: r) (k, (l.length : Int)) = some (.go (k + c x, ((l.length + 1 : Nat) : Int))))
    (hend : ∀ (l : List α) (k : Int), b l (k, (l.length : Int)) = some (.done (.nxt k))) : ∀ (xs l : List α) (k : Int), (∀ x ∈ xs, P x) → 0 ≤ k → k + cs c xs ≤ 9223372036854775807 → l.length + xs.length < 9223372036854775807 →
    loop (b (l ++ pm m c xs k)) (k, (l.length : Int)) = some (.nxt (k + cs c xs))
  | [], l, k, _, _, _, _ => by
    rw [loop_eq, pm, List.append_nil, hend]
    simp [cs, Lp.elim]
  | x :: xs, l, k, hP, h0, h1, h2 => by
    have hx := hc x
    have hxs := cs_nonneg hc xs
    simp only [cs] at h1
    simp only [List.length_cons] at h2
    rw [pm, loop_eq, hstep l _ x k (hP x (by simp)) h0 (by omega) (by omega)]
    simp only [Option.bind_some, Lp.elim]
    have := held_loop m c P hc hstep hend xs (l ++ [m x k]) (k + c x) (fun y hy => hP y (by simp [hy])) (by omega) (by omega) (by simp; omega)
    simp only [List.length_append, List.length_cons, List.length_nil, List.append_assoc, List.cons_append, List.nil_append] at this
    rw [this]
    simp only [cs]
    congr 2
    omega

theorem same_of {α β : Type} {xs : List α} {ys : List β} (h : xs.length = ys.length) : same xs ys = some () := if_pos h

theorem set_app {α : Type} (l r : List α) (x y : α) : (l ++ x :: r).set l.length y = l ++ y :: r := by
  rw [List.set_append_right _ _ (Nat.le_refl _)]
  simp

theorem seq_self (a : ByteArray) : seq a a = true := by
  unfold seq
  simp

/-- One mark. -/
def c1 {α : Type} (_ : α) : Int := 1
theorem c1_nonneg {α : Type} (a : α) : 0 ≤ c1 a := by unfold c1; decide

theorem app_of {α : Type} {B : Nat} {xs ys : List α} (h : (xs.length + ys.length) * B ≤ 140737488355328) (h2 : xs.length + ys.length ≤ 4611686018427387904) : app B xs ys = some (xs ++ ys) := if_pos ⟨h, h2⟩

theorem loop_meas {S T : Type} {b : S → Option (Lp S T)} (I : S → Prop) (μ : S → Nat) (Q : T → Prop) (step : ∀ s, I s → (∃ s', b s = some (.go s') ∧ I s' ∧ μ s' < μ s) ∨ ∃ t, b s = some (.done t) ∧ Q t) : ∀ (n : Nat) (s : S), μ s ≤ n → I s → ∃ t, loop b s = some t ∧ Q t
  | 0, s, hn, hI => by
    rcases step s hI with ⟨s', _, _, h3⟩ | ⟨t, h1, h2⟩
    · omega
    · exact ⟨t, by rw [loop_eq, h1]; rfl, h2⟩
  | n + 1, s, hn, hI => by
    rcases step s hI with ⟨s', h1, h2, h3⟩ | ⟨t, h1, h2⟩
    · obtain ⟨t, h4, h5⟩ := loop_meas I μ Q step n s' (by omega) h2
      exact ⟨t, by rw [loop_eq, h1]; exact h4, h5⟩
    · exact ⟨t, by rw [loop_eq, h1]; rfl, h2⟩
def File.ok (x : File) : Prop := (x.Path.size ≤ maxLen) ∧ (x.Data.length ≤ maxLen ∧ ∀ y1 ∈ x.Data, IntKind.u8.min ≤ y1 ∧ y1 ≤ IntKind.u8.max)

def Disk.ok (x : Disk) : Prop := (x.Files.length ≤ maxLen ∧ ∀ y1 ∈ x.Files, File.ok y1) ∧ (IntKind.i64.min ≤ x.Budget ∧ x.Budget ≤ IntKind.i64.max) ∧ (IntKind.i64.min ≤ x.Writes ∧ x.Writes ≤ IntKind.i64.max) ∧ (IntKind.i64.min ≤ x.Stop ∧ x.Stop ≤ IntKind.i64.max) ∧ (True)

theorem szByteS_ok (x : (List Int)) (hx : x.length ≤ maxLen ∧ ∀ y1 ∈ x, IntKind.u8.min ≤ y1 ∧ y1 ≤ IntKind.u8.max) (l : Int) (h0 : 0 ≤ l) (h1 : l ≤ 1048576) : ∃ r, laws_szByteS x l = some r ∧ (r < 0 ∨ (0 ≤ r ∧ r ≤ l ∧ (x.length ≤ 1048576 ∧ ∀ y0 ∈ x, True))) := by
  obtain ⟨hm, hx⟩ := hx
  unfold maxLen at hm
  unfold laws_szByteS
  rw [w64_of (x := l - x.length) (by omega) (by omega)]
  by_cases c1 : l - (x.length : Int) < 0
  · rw [if_pos (by simpa using c1)]
    exact ⟨_, rfl, .inl (by omega)⟩
  · rw [if_neg (by simpa using c1)]
    exact ⟨_, rfl, .inr ⟨by omega, by omega, by omega, fun _ _ => trivial⟩⟩

def File.sm (B : Nat) (x : File) : Prop := (x.Path.size ≤ B) ∧ (x.Data.length ≤ B ∧ ∀ y0 ∈ x.Data, True)

def Disk.sm (B : Nat) (x : Disk) : Prop := (x.Files.length ≤ B ∧ ∀ y0 ∈ x.Files, File.sm B y0) ∧ (True) ∧ (True) ∧ (True) ∧ (True)

theorem szFile_ok (x : File) (hx : File.ok x) (l : Int) (h0 : 0 ≤ l) (h1 : l ≤ 1048576) : ∃ r, laws_szFile x l = some r ∧ (r < 0 ∨ (0 ≤ r ∧ r ≤ l ∧ (File.sm 1048576 x))) := by
  obtain ⟨k0, k1⟩ := hx
  unfold maxLen at *
  unfold laws_szFile
  rw [w64_of (x := l - x.Path.size) (by omega) (by omega)]
  by_cases c0 : l - (x.Path.size : Int) < 0
  · rw [if_pos (by simpa using c0)]
    exact ⟨_, rfl, .inl (by omega)⟩
  rw [if_neg (by simpa using c0)]
  obtain ⟨r1, e1, g1⟩ := szByteS_ok x.Data k1 (l - x.Path.size) (by omega) (by omega)
  rw [e1]
  simp only [Option.bind_some]
  by_cases c1 : r1 < 0
  · rw [if_pos (by simpa using c1)]
    exact ⟨_, rfl, .inl (by omega)⟩
  rw [if_neg (by simpa using c1)]
  obtain ⟨p1, q1, z1⟩ := g1.resolve_left c1
  exact ⟨_, rfl, .inr ⟨by omega, by omega, by omega, z1⟩⟩

theorem szFileS_ok (x : (List File)) (hx : x.length ≤ maxLen ∧ ∀ y1 ∈ x, File.ok y1) (l : Int) (h0 : 0 ≤ l) (h1 : l ≤ 1048576) : ∃ r, laws_szFileS x l = some r ∧ (r < 0 ∨ (0 ≤ r ∧ r ≤ l ∧ (x.length ≤ 1048576 ∧ ∀ y0 ∈ x, File.sm 1048576 y0))) := by
  obtain ⟨hm, hx⟩ := hx
  unfold maxLen at hm
  unfold laws_szFileS
  rw [w64_of (x := l - x.length) (by omega) (by omega)]
  by_cases c1 : l - (x.length : Int) < 0
  · rw [if_pos (by simpa using c1)]
    exact ⟨_, rfl, .inl (by omega)⟩
  · rw [if_neg (by simpa using c1)]
    have key := sz_loop x (fun y0 => File.sm 1048576 y0) (l - x.length) (b := laws_szFileS_l1b x) ?_ ?_ (by omega)
    · obtain ⟨t, h2, h3⟩ := key
      unfold laws_szFileS_l1
      rw [h2]
      cases t with
      | ret r => exact ⟨r, rfl, .inl h3⟩
      | nxt r => exact ⟨r, rfl, .inr ⟨h3.1, by have := h3.2.1; omega, by omega, h3.2.2⟩⟩
    · intro q i hi hq0 hq1
      unfold laws_szFileS_l1b
      rw [if_pos (by simp; omega)]
      simp only [idx_nat hi, Option.bind_some]
      have hi2 : w64 ((i : Int) + 1) = ((i + 1 : Nat) : Int) := w64_nat (by omega)
      obtain ⟨r, e, hr⟩ := szFile_ok x[i] (hx _ (List.getElem_mem hi)) q hq0 (by omega)
      rw [e]
      simp only [Option.bind_some]
      by_cases c : r < 0
      · rw [if_pos (by simpa using c)]
        exact .inr ⟨_, rfl, by omega⟩
      · rw [if_neg (by simpa using c), hi2]
        obtain ⟨g1, g2, g3⟩ := hr.resolve_left c
        exact .inl ⟨_, rfl, g1, g2, g3⟩
    · intro q
      unfold laws_szFileS_l1b
      rw [if_neg (by simp)]

theorem szDisk_ok (x : Disk) (hx : Disk.ok x) (l : Int) (h0 : 0 ≤ l) (h1 : l ≤ 1048576) : ∃ r, laws_szDisk x l = some r ∧ (r < 0 ∨ (0 ≤ r ∧ r ≤ l ∧ (Disk.sm 1048576 x))) := by
  obtain ⟨k0, k1, k2, k3, k4⟩ := hx
  unfold maxLen at *
  unfold laws_szDisk
  obtain ⟨r0, e0, g0⟩ := szFileS_ok x.Files k0 l (by omega) (by omega)
  rw [e0]
  simp only [Option.bind_some]
  by_cases c0 : r0 < 0
  · rw [if_pos (by simpa using c0)]
    exact ⟨_, rfl, .inl (by omega)⟩
  rw [if_neg (by simpa using c0)]
  obtain ⟨p0, q0, z0⟩ := g0.resolve_left c0
  exact ⟨_, rfl, .inr ⟨by omega, by omega, z0, trivial, trivial, trivial, trivial⟩⟩

theorem toByteS_eq (x : (List Int)) (hx : x.length ≤ 1049600 ∧ ∀ y0 ∈ x, True) : laws_toByteS x = some x := by
  have hl := hx.1
  unfold laws_toByteS
  have hm : ∀ z : Int, mk 1 (x.length : Int) z = some (List.replicate x.length z) := fun z => by
    unfold mk; rw [if_pos ⟨by omega, by simp; omega, by omega⟩]; simp
  rw [hm]
  simp only [Option.bind_some, laws_toByteS_l1]
  rw [to_loop x ?_ ?_ _ (by simp)]
  · rfl
  · intro ys i hi hl2
    unfold laws_toByteS_l1b
    rw [if_pos (by simp; omega)]
    have hi2 : w64 ((i : Int) + 1) = ((i + 1 : Nat) : Int) := w64_nat (by omega)
    simp only [idx_nat hi, idx_nat (show i < ys.length by omega), Option.bind_some, Int.toNat_natCast, hi2]
  · intro ys _
    unfold laws_toByteS_l1b
    rw [if_neg (by simp)]

theorem toFile_eq (x : File) (hx : File.sm 1049600 x) : laws_toFile x = some x := by
  obtain ⟨h0, h1⟩ := hx
  unfold laws_toFile
  simp only [toByteS_eq x.Data h1, Option.bind_some]

theorem toFileS_eq (x : (List File)) (hx : x.length ≤ 1049600 ∧ ∀ y0 ∈ x, File.sm 1049600 y0) : laws_toFileS x = some x := by
  have hl := hx.1
  unfold laws_toFileS
  have hm : ∀ z : File, mk 40 (x.length : Int) z = some (List.replicate x.length z) := fun z => by
    unfold mk; rw [if_pos ⟨by omega, by simp; omega, by omega⟩]; simp
  rw [hm]
  simp only [Option.bind_some, laws_toFileS_l1]
  rw [to_loop x ?_ ?_ _ (by simp)]
  · rfl
  · intro ys i hi hl2
    unfold laws_toFileS_l1b
    rw [if_pos (by simp; omega)]
    have hi2 : w64 ((i : Int) + 1) = ((i + 1 : Nat) : Int) := w64_nat (by omega)
    simp only [idx_nat hi, idx_nat (show i < ys.length by omega), Option.bind_some, Int.toNat_natCast, hi2, toFile_eq x[i] (hx.2 _ (List.getElem_mem hi))]
  · intro ys _
    unfold laws_toFileS_l1b
    rw [if_neg (by simp)]

theorem toDisk_eq (x : Disk) (hx : Disk.sm 1049600 x) : laws_toDisk x = some x := by
  obtain ⟨h0, h1, h2, h3, h4⟩ := hx
  unfold laws_toDisk
  simp only [toFileS_eq x.Files h0, Option.bind_some]

theorem toInt64S_eq (x : (List Int)) (hx : x.length ≤ 1049600 ∧ ∀ y0 ∈ x, True) : laws_toInt64S x = some x := by
  have hl := hx.1
  unfold laws_toInt64S
  have hm : ∀ z : Int, mk 8 (x.length : Int) z = some (List.replicate x.length z) := fun z => by
    unfold mk; rw [if_pos ⟨by omega, by simp; omega, by omega⟩]; simp
  rw [hm]
  simp only [Option.bind_some, laws_toInt64S_l1]
  rw [to_loop x ?_ ?_ _ (by simp)]
  · rfl
  · intro ys i hi hl2
    unfold laws_toInt64S_l1b
    rw [if_pos (by simp; omega)]
    have hi2 : w64 ((i : Int) + 1) = ((i + 1 : Nat) : Int) := w64_nat (by omega)
    simp only [idx_nat hi, idx_nat (show i < ys.length by omega), Option.bind_some, Int.toNat_natCast, hi2]
  · intro ys _
    unfold laws_toInt64S_l1b
    rw [if_neg (by simp)]

theorem eqByteS_self (x : (List Int)) (hx : x.length ≤ 1049600 ∧ ∀ y0 ∈ x, True) : laws_eqByteS x x = some true := by
  have hl := hx.1
  unfold laws_eqByteS
  rw [if_neg (by simp)]
  unfold laws_eqByteS_l1
  rw [eq_loop x.length ?_ ?_]
  · rfl
  · intro i hi
    unfold laws_eqByteS_l1b
    rw [if_pos (by simp; omega)]
    have hi2 : w64 ((i : Int) + 1) = ((i + 1 : Nat) : Int) := w64_nat (by omega)
    simp [idx_nat hi, hi2]
  · unfold laws_eqByteS_l1b
    rw [if_neg (by simp)]

theorem eqFile_self (x : File) (hx : File.sm 1049600 x) : laws_eqFile x x = some true := by
  obtain ⟨h0, h1⟩ := hx
  unfold laws_eqFile
  simp [eqByteS_self x.Data h1]

theorem eqFileS_self (x : (List File)) (hx : x.length ≤ 1049600 ∧ ∀ y0 ∈ x, File.sm 1049600 y0) : laws_eqFileS x x = some true := by
  have hl := hx.1
  unfold laws_eqFileS
  rw [if_neg (by simp)]
  unfold laws_eqFileS_l1
  rw [eq_loop x.length ?_ ?_]
  · rfl
  · intro i hi
    unfold laws_eqFileS_l1b
    rw [if_pos (by simp; omega)]
    have hi2 : w64 ((i : Int) + 1) = ((i + 1 : Nat) : Int) := w64_nat (by omega)
    simp [idx_nat hi, hi2, eqFile_self x[i] (hx.2 _ (List.getElem_mem hi))]
  · unfold laws_eqFileS_l1b
    rw [if_neg (by simp)]

theorem eqDisk_self (x : Disk) (hx : Disk.sm 1049600 x) : laws_eqDisk x x = some true := by
  obtain ⟨h0, h1, h2, h3, h4⟩ := hx
  unfold laws_eqDisk
  simp [eqFileS_self x.Files h0]

def GensResult.sm (B : Nat) (x : GensResult) : Prop := (True) ∧ (x.Gens.length ≤ B ∧ ∀ y0 ∈ x.Gens, True)

theorem eqInt64S_self (x : (List Int)) (hx : x.length ≤ 1049600 ∧ ∀ y0 ∈ x, True) : laws_eqInt64S x x = some true := by
  have hl := hx.1
  unfold laws_eqInt64S
  rw [if_neg (by simp)]
  unfold laws_eqInt64S_l1
  rw [eq_loop x.length ?_ ?_]
  · rfl
  · intro i hi
    unfold laws_eqInt64S_l1b
    rw [if_pos (by simp; omega)]
    have hi2 : w64 ((i : Int) + 1) = ((i + 1 : Nat) : Int) := w64_nat (by omega)
    simp [idx_nat hi, hi2]
  · unfold laws_eqInt64S_l1b
    rw [if_neg (by simp)]

theorem eqGensResult_self (x : GensResult) (hx : GensResult.sm 1049600 x) : laws_eqGensResult x x = some true := by
  obtain ⟨h0, h1⟩ := hx
  unfold laws_eqGensResult
  simp [eqInt64S_self x.Gens h1]

theorem b2s_size1 (a : Int) : (b2s [a]).size = 1 := rfl

theorem markText_some {k : Int} (h0 : 0 ≤ k) (h1 : k ≤ 9223372036854775807) : ∃ s, laws_markText k = some s := by
  have key : ∀ (n : Nat) (k : Int) (s : ByteArray), 0 ≤ k → k < 10 ^ n → k ≤ 9223372036854775807 → s.size + n ≤ 1000 → ∃ t, loop laws_markText_l1b (k, s) = some t ∧ t.size ≤ s.size + n := by
    intro n
    induction n with
    | zero =>
      intro k s h0 h1 _ _
      have : k = 0 := by simp at h1; omega
      subst this
      exact ⟨s, by rw [loop_eq]; rfl, by omega⟩
    | succ n ih =>
      intro k s h0 h1 h2 h3
      by_cases hk : k > 0
      · rw [loop_eq]
        unfold laws_markText_l1b
        simp only
        rw [if_pos (by simpa using hk)]
        have hc : ∀ a : Int, cat (b2s [a]) s = some (b2s [a] ++ s) := fun a => by
          unfold cat; rw [if_pos (by rw [b2s_size1]; omega)]
        rw [hc]
        simp only [Option.bind_some, Lp.elim]
        have hd : k.tdiv 10 = k / 10 := Int.tdiv_eq_ediv_of_nonneg h0
        rw [hd, w64_of (by omega) (by omega)]
        obtain ⟨t, g1, g2⟩ := ih (k / 10) (b2s [IntKind.u8.wrap (w64 (48 + k.tmod 10))] ++ s) (by omega) (by rw [Int.pow_succ] at h1; omega) (by omega) (by rw [ByteArray.size_append, b2s_size1]; omega)
        refine ⟨t, g1, ?_⟩
        rw [ByteArray.size_append, b2s_size1] at g2
        omega
      · have : k = 0 := by omega
        subst this
        exact ⟨s, by rw [loop_eq]; rfl, by omega⟩
  unfold laws_markText
  by_cases hk : k ≤ 0
  · rw [if_pos (by simpa using hk)]
    exact ⟨_, rfl⟩
  · rw [if_neg (by simpa using hk)]
    obtain ⟨t, g1, g2⟩ := key 19 k (bs []) h0 (by omega) h1 (by decide)
    unfold laws_markText_l1
    rw [g1]
    simp only [Option.bind_some]
    have e0 : (bs []).size = 0 := rfl
    have e1 : (bs [109]).size = 1 := rfl
    unfold cat
    rw [if_pos (by omega)]
    exact ⟨_, rfl⟩

noncomputable def mT (k : Int) : ByteArray := (laws_markText k).getD ByteArray.empty

theorem markText_eq {k : Int} (h0 : 0 ≤ k) (h1 : k ≤ 9223372036854775807) : laws_markText k = some (mT k) := by
  obtain ⟨s, hs⟩ := markText_some h0 h1
  unfold mT
  rw [hs]
  rfl

def mByte (_ : Int) (k : Int) : Int := IntKind.u8.wrap k

theorem markByteSr_eq (xs : List Int) (hx : xs.length ≤ 1049600 ∧ ∀ y0 ∈ xs, True) (k : Int) (h0 : 0 ≤ k) (h1 : k + cs c1 xs ≤ 9223372036854775807) : laws_markByteSr xs k = some (k + cs c1 xs, pm mByte c1 xs k) := by
  unfold laws_markByteSr laws_markByteSr_l1
  have key := mark_loop mByte c1 (fun y0 => True) c1_nonneg (b := laws_markByteSr_l1b) ?_ ?_ xs [] k hx.2 h0 h1 (by have := hx.1; simp; omega)
  · simp only [List.nil_append, List.length_nil, Int.natCast_zero] at key
    rw [key]
    rfl
  · intro l r x k hP h0 hk hl
    simp only [c1] at hk
    have w0 := w64_of (x := k + 1) (by omega) (by omega)
    have hi2 : w64 ((l.length : Int) + 1) = ((l.length + 1 : Nat) : Int) := w64_nat (by omega)
    unfold laws_markByteSr_l1b
    rw [if_pos (by simp; omega)]
    simp only [idx_append, set_app, Option.bind_some, Int.toNat_natCast, hi2, w0]
    rfl
  · intro l k
    unfold laws_markByteSr_l1b
    rw [if_neg (by simp)]

noncomputable def mFile (x : File) (k : Int) : File := ({ Path := mT (k), Data := pm mByte c1 x.Data (k + 1) } : File)

noncomputable def cFile (x : File) : Int := 1 + cs c1 x.Data

theorem cFile_nonneg (x : File) : 0 ≤ cFile x := by
  have n1 := cs_nonneg c1_nonneg x.Data
  unfold cFile
  omega

theorem markFileSr_eq (xs : List File) (hx : xs.length ≤ 1049600 ∧ ∀ y0 ∈ xs, File.sm 1049600 y0) (k : Int) (h0 : 0 ≤ k) (h1 : k + cs cFile xs ≤ 9223372036854775807) : laws_markFileSr xs k = some (k + cs cFile xs, pm mFile cFile xs k) := by
  unfold laws_markFileSr laws_markFileSr_l1
  have key := mark_loop mFile cFile (fun y0 => File.sm 1049600 y0) cFile_nonneg (b := laws_markFileSr_l1b) ?_ ?_ xs [] k hx.2 h0 h1 (by have := hx.1; simp; omega)
  · simp only [List.nil_append, List.length_nil, Int.natCast_zero] at key
    rw [key]
    rfl
  · intro l r x k hP h0 hk hl
    simp only [cFile] at hk
    have n1 := cs_nonneg c1_nonneg x.Data
    have t0 := markText_eq (k := k) (by omega) (by omega)
    have w0 := w64_of (x := k + 1) (by omega) (by omega)
    have t1 := markByteSr_eq x.Data (hP.2) (k + 1) (by omega) (by omega)
    have hi2 : w64 ((l.length : Int) + 1) = ((l.length + 1 : Nat) : Int) := w64_nat (by omega)
    unfold laws_markFileSr_l1b
    rw [if_pos (by simp; omega)]
    simp only [idx_append, set_app, Option.bind_some, Int.toNat_natCast, hi2, t0, w0, t1, same_of (pm_length _ _ _ _)]
    rw [show k + 1 + cs c1 x.Data = k + cFile x from by simp only [cFile]; omega]
    rfl
  · intro l k
    unfold laws_markFileSr_l1b
    rw [if_neg (by simp)]

theorem markDiskg_eq (x : Disk) (hP : Disk.sm 1049600 x) (k : Int) (h0 : 0 ≤ k) (h1 : k + cs cFile x.Files ≤ 9223372036854775807) : laws_markDiskg x k = some (k + cs cFile x.Files, pm mFile cFile x.Files (k)) := by
  have n0 := cs_nonneg cFile_nonneg x.Files
  have t0 := markFileSr_eq x.Files (hP.1) (k) (by omega) (by omega)
  unfold laws_markDiskg
  simp only [t0, Option.bind_some, same_of (pm_length _ _ _ _)]

def mInt64 (_ : Int) (k : Int) : Int := k

theorem markInt64Sr_eq (xs : List Int) (hx : xs.length ≤ 1049600 ∧ ∀ y0 ∈ xs, True) (k : Int) (h0 : 0 ≤ k) (h1 : k + cs c1 xs ≤ 9223372036854775807) : laws_markInt64Sr xs k = some (k + cs c1 xs, pm mInt64 c1 xs k) := by
  unfold laws_markInt64Sr laws_markInt64Sr_l1
  have key := mark_loop mInt64 c1 (fun y0 => True) c1_nonneg (b := laws_markInt64Sr_l1b) ?_ ?_ xs [] k hx.2 h0 h1 (by have := hx.1; simp; omega)
  · simp only [List.nil_append, List.length_nil, Int.natCast_zero] at key
    rw [key]
    rfl
  · intro l r x k hP h0 hk hl
    simp only [c1] at hk
    have w0 := w64_of (x := k + 1) (by omega) (by omega)
    have hi2 : w64 ((l.length : Int) + 1) = ((l.length + 1 : Nat) : Int) := w64_nat (by omega)
    unfold laws_markInt64Sr_l1b
    rw [if_pos (by simp; omega)]
    simp only [idx_append, set_app, Option.bind_some, Int.toNat_natCast, hi2, w0]
    rfl
  · intro l k
    unfold laws_markInt64Sr_l1b
    rw [if_neg (by simp)]

theorem heldInt64S_eq (xs : List Int) (hx : xs.length ≤ 1049600 ∧ ∀ y0 ∈ xs, True) (k : Int) (h0 : 0 ≤ k) (h1 : k + cs c1 xs ≤ 9223372036854775807) : laws_heldInt64S (pm mInt64 c1 xs k) k = some (k + cs c1 xs) := by
  unfold laws_heldInt64S laws_heldInt64S_l1
  have key := held_loop mInt64 c1 (fun y0 => True) c1_nonneg (b := laws_heldInt64S_l1b) ?_ ?_ xs [] k hx.2 h0 h1 (by have := hx.1; simp; omega)
  · simp only [List.nil_append, List.length_nil, Int.natCast_zero] at key
    rw [key]
    rfl
  · intro l r x k hP h0 hk hl
    simp only [c1] at hk
    have w0 := w64_of (x := k + 1) (by omega) (by omega)
    have hi2 : w64 ((l.length : Int) + 1) = ((l.length + 1 : Nat) : Int) := w64_nat (by omega)
    unfold laws_heldInt64S_l1b
    rw [if_pos (by simp; omega)]
    simp [idx_append, hi2, mInt64, w0]
    all_goals (first | rfl | omega | (simp only [c1]; omega))
  · intro l k
    unfold laws_heldInt64S_l1b
    rw [if_neg (by simp)]

theorem markGensResultg_eq (x : GensResult) (hP : GensResult.sm 1049600 x) (k : Int) (h0 : 0 ≤ k) (h1 : k + cs c1 x.Gens ≤ 9223372036854775807) : laws_markGensResultg x k = some (k + cs c1 x.Gens, pm mInt64 c1 x.Gens (k)) := by
  have n0 := cs_nonneg c1_nonneg x.Gens
  have t0 := markInt64Sr_eq x.Gens (hP.2) (k) (by omega) (by omega)
  unfold laws_markGensResultg
  simp only [t0, Option.bind_some, same_of (pm_length _ _ _ _)]

theorem heldGensResult_eq (x : GensResult) (hP : GensResult.sm 1049600 x) (k : Int) (h0 : 0 ≤ k) (h1 : k + cs c1 x.Gens ≤ 9223372036854775807) : laws_heldGensResult ({ Code := x.Code, Gens := pm mInt64 c1 x.Gens (k) } : GensResult) k = some (k + cs c1 x.Gens) := by
  have n0 := cs_nonneg c1_nonneg x.Gens
  have t0 := heldInt64S_eq x.Gens (hP.2) (k) (by omega) (by omega)
  unfold laws_heldGensResult
  simp [t0]
  all_goals omega

theorem File.sm_mono {x : File} (h : File.sm 1048576 x) : File.sm 1049600 x := ⟨(Nat.le_trans h.1 (by decide)), ⟨Nat.le_trans h.2.1 (by decide), fun y0 z0 => trivial⟩⟩

theorem Disk.sm_mono {x : Disk} (h : Disk.sm 1048576 x) : Disk.sm 1049600 x := ⟨⟨Nat.le_trans h.1.1 (by decide), fun y0 z0 => (File.sm_mono (h.1.2 y0 z0))⟩, trivial, trivial, trivial, trivial⟩

theorem csByteS_le (x : (List Int)) (hx : x.length ≤ 1049600 ∧ ∀ y0 ∈ x, True) : cs c1 x ≤ 1049600 := by
  have := cs_le (c := c1) (C := 1) (N := 1049600) (by decide) x (fun a _ => by unfold c1; decide) hx.1
  omega

theorem csFileS_le (x : (List File)) (hx : x.length ≤ 1049600 ∧ ∀ y0 ∈ x, File.sm 1049600 y0) : cs cFile x ≤ 1101661209600 := by
  have := cs_le (c := cFile) (C := 1049601) (N := 1049600) (by decide) x (fun a ha => by have hP := hx.2 a ha; have q1 := csByteS_le a.Data (hP.2); unfold cFile; omega) hx.1
  omega

theorem csInt64S_le (x : (List Int)) (hx : x.length ≤ 1049600 ∧ ∀ y0 ∈ x, True) : cs c1 x ≤ 1049600 := by
  have := cs_le (c := c1) (C := 1) (N := 1049600) (by decide) x (fun a _ => by unfold c1; decide) hx.1
  omega

theorem FnExactKeptGens_true (a1 : Disk) (a2 : (List Int)) (k0 : Disk.ok a1) (k1 : a2.length ≤ maxLen ∧ ∀ y1 ∈ a2, IntKind.i64.min ≤ y1 ∧ y1 ≤ IntKind.i64.max) (both : (Disk.sm 1048576 a1) → (a2.length ≤ 1048576 ∧ ∀ y0 ∈ a2, True) → ∃ r, spec_KeptGens a1 a2 = some r ∧ impl_KeptGens a1 a2 = some r ∧ (GensResult.sm 1049600 r)) : laws_FnExactKeptGens a1 a2 = some true := by
  unfold laws_FnExactKeptGens
  by_cases d1 : (a2.length : Int) > 1048576
  · rw [if_pos (by simpa using d1)]
  rw [if_neg (by simpa using d1)]
  have s_a2 : a2.length ≤ 1048576 ∧ ∀ y0 ∈ a2, True := ⟨by omega, fun _ _ => trivial⟩
  obtain ⟨r2, e2, g2⟩ := szDisk_ok a1 k0 1048576 (by omega) (by omega)
  rw [e2]
  simp only [Option.bind_some]
  by_cases d2 : r2 < 0
  · rw [if_pos (by simpa using d2)]
  rw [if_neg (by simpa using d2)]
  obtain ⟨p2, q2, s_a1⟩ := g2.resolve_left d2
  obtain ⟨r, e1, e2, hr⟩ := both s_a1 s_a2
  have m_a1 : Disk.sm 1049600 a1 := (Disk.sm_mono s_a1)
  have m_a2 : a2.length ≤ 1049600 ∧ ∀ y0 ∈ a2, True := ⟨Nat.le_trans s_a2.1 (by decide), fun y0 z0 => trivial⟩
  have n1 := cs_nonneg cFile_nonneg a1.Files
  have b1 := csFileS_le a1.Files (m_a1.1)
  have n3 := cs_nonneg c1_nonneg a2
  have b3 := csInt64S_le a2 (m_a2)
  have n5 := cs_nonneg c1_nonneg r.Gens
  have b5 := csInt64S_le r.Gens (hr.2)
  have t2 := markDiskg_eq a1 m_a1 (1) (by omega) (by omega)
  have t4 := markInt64Sr_eq a2 m_a2 (1 + cs cFile a1.Files) (by omega) (by omega)
  have z1 : ¬ (1 + cs cFile a1.Files + cs c1 a2 < 0) := by omega
  have t6 := markGensResultg_eq r hr 1 (by omega) (by omega)
  have u6 := heldGensResult_eq r hr 1 (by omega) (by omega)
  have z2 : ¬ (1 + cs c1 r.Gens < 0) := by omega
  simp [e1, e2, toDisk_eq a1 m_a1, eqDisk_self a1 m_a1, toInt64S_eq a2 m_a2, eqInt64S_self a2 m_a2, eqGensResult_self r hr, t2, t4, z1, t6, u6, z2, same_of (pm_length _ _ _ _)]

/-! ### Texts as lists of bytes -/
def bl (s : ByteArray) : List Int := s.toList.map (fun b => (b.toNat : Int))

theorem bl_length (s : ByteArray) : (bl s).length = s.size := by
  unfold bl
  rw [List.length_map, ByteArray.toList_eq]
  rfl

theorem bidx_nat {s : ByteArray} {i : Nat} (h : i < (bl s).length) : bidx s (i : Int) = some (bl s)[i] := by
  unfold bidx
  rw [if_pos (by omega)]
  have hs : i < s.size := by rw [bl_length] at h; exact h
  have e : s[(i : Int).toNat]? = some s[i] := by simp [hs]
  rw [e]
  simp only [Option.map_some, bl, List.getElem_map]
  congr 2
  simp only [ByteArray.toList_eq]
  rfl

theorem bl_range {s : ByteArray} : ∀ c ∈ bl s, 0 ≤ c ∧ c ≤ 255 := by
  intro c hc
  unfold bl at hc
  obtain ⟨b, _, rfl⟩ := List.mem_map.1 hc
  have := b.toNat_lt
  omega

theorem less_irrefl : ∀ (a : List UInt8), Op.bytesLess a a = false
  | [] => rfl
  | x :: a => by simp [Op.bytesLess, less_irrefl a]

theorem less_trans : ∀ {a b c : List UInt8}, Op.bytesLess a b = true → Op.bytesLess b c = true → Op.bytesLess a c = true
  | _, [], _, h, _ => by simp [Op.bytesLess] at h
  | _, _ :: _, [], _, h => by simp [Op.bytesLess] at h
  | [], _ :: _, _ :: _, _, _ => by simp [Op.bytesLess]
  | x :: a, y :: b, z :: c, h1, h2 => by
    simp only [Op.bytesLess, Bool.or_eq_true, decide_eq_true_eq, Bool.and_eq_true, beq_iff_eq] at h1 h2 ⊢
    rcases h1 with h1 | ⟨rfl, h1⟩
    · rcases h2 with h2 | ⟨rfl, h2⟩
      · exact .inl (UInt8.lt_trans h1 h2)
      · exact .inl h1
    · rcases h2 with h2 | ⟨rfl, h2⟩
      · exact .inl h2
      · exact .inr ⟨rfl, less_trans h1 h2⟩

theorem less_tri : ∀ (a b : List UInt8), Op.bytesLess a b = false → a ≠ b → Op.bytesLess b a = true
  | [], [], _, h => absurd rfl h
  | [], _ :: _, h, _ => by simp [Op.bytesLess] at h
  | _ :: _, [], _, _ => by simp [Op.bytesLess]
  | x :: a, y :: b, h, hne => by
    simp only [Op.bytesLess, Bool.or_eq_false_iff, decide_eq_false_iff_not, Bool.and_eq_false_iff, beq_eq_false_iff_ne] at h
    simp only [Op.bytesLess, Bool.or_eq_true, decide_eq_true_eq, Bool.and_eq_true, beq_iff_eq]
    by_cases hxy : x = y
    · subst hxy
      refine .inr ⟨rfl, less_tri a b ?_ (fun e => hne (by rw [e]))⟩
      rcases h.2 with h' | h'
      · exact absurd rfl h'
      · exact h'
    · refine .inl ?_
      have := h.1
      rw [UInt8.lt_iff_toNat_lt] at this ⊢
      have : x.toNat ≠ y.toNat := fun e => hxy (UInt8.toNat_inj.1 e)
      omega

theorem toList_inj {a b : ByteArray} (h : a.toList = b.toList) : a = b := by
  rw [ByteArray.toList_eq, ByteArray.toList_eq] at h
  cases a; cases b
  simp at h
  rw [h]

theorem slt_irrefl (a : ByteArray) : slt a a = false := less_irrefl _
theorem slt_trans {a b c : ByteArray} (h1 : slt a b = true) (h2 : slt b c = true) : slt a c = true := less_trans h1 h2
theorem slt_tri {a b : ByteArray} (h : slt a b = false) (hne : a ≠ b) : slt b a = true := less_tri _ _ h (fun e => hne (toList_inj e))
theorem slt_ne {a b : ByteArray} (h : slt a b = true) : a ≠ b := fun e => by subst e; rw [slt_irrefl] at h; cases h
theorem slt_asymm {a b : ByteArray} (h : slt a b = true) : slt b a = false := by
  cases h2 : slt b a with
  | false => rfl
  | true => have := slt_trans h h2; rw [slt_irrefl] at this; cases this
theorem seq_iff {a b : ByteArray} : seq a b = true ↔ a = b := by
  unfold seq
  simp only [beq_iff_eq]
  exact ⟨toList_inj, fun e => by rw [e]⟩
theorem seq_eq (a b : ByteArray) : seq a b = decide (a = b) := by
  rw [Bool.eq_iff_iff, seq_iff]; simp

theorem in_eq (a b c : Int) : spec_l1In a b c = some (decide (a ≥ b) && decide (a ≤ c)) := by
  unfold spec_l1In
  cases decide (a ≥ b) <;> rfl
/-! ### Paths and disks -/
def nameB (c : Int) : Bool := (decide (c ≥ 97) && decide (c ≤ 122)) || (decide (c ≥ 48) && decide (c ≤ 57)) || c == 95
def pathB (c : Int) : Bool := nameB c || c == 46 || c == 45 || c == 47

theorem spec_l1Name_eq (c : Int) : spec_l1Name c = some (nameB c) := by
  unfold spec_l1Name spec_l1Letter spec_l1Digit nameB
  cases decide (c ≥ 97) <;> cases decide (c ≤ 122) <;> cases decide (c ≥ 48) <;> cases decide (c ≤ 57) <;> rfl

theorem spec_l7Byte_eq (c : Int) : spec_l7Byte c = some (pathB c) := by
  unfold spec_l7Byte pathB
  rw [spec_l1Name_eq]
  cases nameB c <;> cases (c == 46) <;> cases (c == 45) <;> cases (c == 47) <;> rfl

theorem impl_isNameByte_eq (c : Int) : impl_isNameByte c = some (nameB c) := by
  unfold impl_isNameByte nameB
  cases decide (c ≥ 97) <;> cases decide (c ≤ 122) <;> cases decide (c ≥ 48) <;> cases decide (c ≤ 57) <;> rfl

theorem PathFault_eq (s : ByteArray) : impl_PathFault s = spec_PathFault s := by
  unfold impl_PathFault spec_PathFault
  have : impl_PathFault_l1 s = spec_PathFault_l1 s := by
    unfold impl_PathFault_l1 spec_PathFault_l1
    refine loop_congr fun i => ?_
    unfold impl_PathFault_l1b spec_PathFault_l1b
    split
    · congr 1
      funext c
      rw [spec_l7Byte_eq, impl_isNameByte_eq]
      unfold pathB
      simp only [bne]
      cases nameB c <;> cases (c == 46) <;> cases (c == 45) <;> cases (c == 47) <;> rfl
    · rfl
  rw [this]

def pathOk (s : ByteArray) : Prop := 1 ≤ s.size ∧ s.size ≤ 40 ∧ ∀ c ∈ bl s, pathB c = true

theorem PathFault_spec (s : ByteArray) : (pathOk s ∧ spec_PathFault s = some 0) ∨ (¬ pathOk s ∧ spec_PathFault s = some 5) := by
  unfold spec_PathFault
  by_cases h1 : s.size < 1
  · refine .inr ⟨fun h => by have := h.1; omega, ?_⟩
    rw [if_pos (by simp; omega)]; rfl
  · rw [if_neg (by simp; omega)]
    simp only [Option.bind_some]
    by_cases h2 : s.size > 40
    · refine .inr ⟨fun h => by have := h.2.1; omega, ?_⟩
      rw [if_pos (by simp; omega)]
    · rw [if_neg (by simp; omega)]
      obtain ⟨t, e, h⟩ := loop_up (b := spec_PathFault_l1b s) (fun i j => j = (i : Int) ∧ ∀ k, (hk : k < (bl s).length) → k < i → pathB (bl s)[k] = true) (bl s).length (fun t => match t with | .ret r => r = 5 ∧ ¬ pathOk s | .nxt _ => ∀ c ∈ bl s, pathB c = true) (by
        rintro i j hi ⟨rfl, hp⟩
        have hs := bl_length s
        unfold spec_PathFault_l1b
        rw [if_pos (by simp; omega), bidx_nat hi]
        simp only [Option.bind_some, spec_l7Byte_eq]
        cases hb : pathB (bl s)[i] with
        | false => exact .inr ⟨_, rfl, rfl, fun h => by have := h.2.2 _ (List.getElem_mem hi); rw [hb] at this; cases this⟩
        | true =>
          rw [w64_nat (by omega)]
          refine .inl ⟨_, rfl, rfl, fun k hk hki => ?_⟩
          rcases Nat.lt_or_ge k i with h | h
          · exact hp k hk h
          · have : k = i := by omega
            subst this; exact hb) (by
        rintro j ⟨rfl, hp⟩
        unfold spec_PathFault_l1b
        rw [if_neg (by simp [bl_length])]
        refine ⟨_, rfl, fun c hc => ?_⟩
        obtain ⟨k, hk, rfl⟩ := List.getElem_of_mem hc
        exact hp k hk hk) (bl s).length 0 0 (by omega) ⟨rfl, fun k _ h => by omega⟩
      simp only [spec_PathFault_l1, e, Option.bind_some]
      cases t with
      | ret r =>
        obtain ⟨rfl, h⟩ := h
        exact .inr ⟨h, rfl⟩
      | nxt u => exact .inl ⟨⟨by omega, by omega, h⟩, rfl⟩

theorem PathFault_some (s : ByteArray) : ∃ r, spec_PathFault s = some r ∧ (r = 0 ↔ pathOk s) := by
  rcases PathFault_spec s with ⟨h1, h2⟩ | ⟨h1, h2⟩
  · exact ⟨0, h2, by simp [h1]⟩
  · exact ⟨5, h2, by simp [h1]⟩

def total (fs : List File) : Int := match fs with
  | [] => 0
  | f :: fs => f.Data.length + total fs

theorem total_append : ∀ (l r : List File), total (l ++ r) = total l + total r
  | [], r => by simp [total]
  | f :: l, r => by simp only [List.cons_append, total, total_append l r]; omega

theorem total_nonneg : ∀ (l : List File), 0 ≤ total l
  | [] => Int.le_refl _
  | f :: l => by have := total_nonneg l; simp only [total]; omega

theorem total_mem : ∀ {l : List File} {f : File}, f ∈ l → (f.Data.length : Int) ≤ total l
  | g :: l, f, h => by
    rcases List.mem_cons.1 h with rfl | h
    · have := total_nonneg l; simp only [total]; omega
    · have := total_mem h; simp only [total]; omega

theorem total_le : ∀ (l : List File) (C : Int), 0 ≤ C → (∀ f ∈ l, (f.Data.length : Int) ≤ C) → total l ≤ l.length * C
  | [], C, _, _ => by simp [total]
  | f :: l, C, hC, h => by
    have h1 := h f (by simp)
    have h2 := total_le l C hC (fun g hg => h g (by simp [hg]))
    simp only [total, List.length_cons, Int.natCast_add, Int.add_mul]
    omega

/-- The bytes of all files. -/
theorem l7Total_eq (d : Disk) (h : d.Files.length ≤ 1048576) (hf : ∀ f ∈ d.Files, f.Data.length ≤ 1048576) : spec_l7Total d = some (total d.Files) := by
  have htot := total_le d.Files 1048576 (by omega) (fun f hm => by have := hf f hm; omega)
  have hb : ((d.Files.length : Int)) * 1048576 ≤ 1048576 * 1048576 := Int.mul_le_mul_of_nonneg_right (by omega) (by omega)
  obtain ⟨t, e, rfl⟩ := loop_up (b := spec_l7Total_l1b d) (fun i s => s = (total (d.Files.take i), (i : Int))) d.Files.length (fun t => t = total d.Files) (by
    rintro i s hi rfl
    unfold spec_l7Total_l1b
    rw [if_pos (by simp; omega)]
    have hsplit : total (d.Files.take (i + 1)) = total (d.Files.take i) + d.Files[i].Data.length := by
      rw [List.take_succ_eq_append_getElem hi, total_append]
      simp [total]
    have hle : total d.Files = total (d.Files.take (i + 1)) + total (d.Files.drop (i + 1)) := by rw [← total_append, List.take_append_drop]
    have h1 := total_nonneg (d.Files.take i)
    have h2 := total_nonneg (d.Files.drop (i + 1))
    simp only [idx_nat hi, Option.bind_some]
    rw [w64_of (by omega) (by omega), w64_nat (by omega)]
    exact .inl ⟨_, rfl, by rw [hsplit]⟩) (by
    rintro s rfl
    unfold spec_l7Total_l1b
    rw [if_neg (by simp)]
    exact ⟨_, rfl, by simp⟩) d.Files.length 0 (0, 0) (by omega) (by simp [total])
  simp only [spec_l7Total, spec_l7Total_l1, e, Option.bind_some]

theorem total_same (d : Disk) : impl_Disk_total d = spec_l7Total d := rfl

/-- A disk that is right. -/
structure Disk.good (d : Disk) : Prop where
  b0 : 0 ≤ d.Budget
  b1 : d.Budget ≤ 20000
  w0 : 0 ≤ d.Writes
  w1 : d.Writes ≤ 1000000000
  s0 : -1 ≤ d.Stop
  s1 : d.Stop ≤ 1000000000
  len : d.Files.length ≤ 120
  path : ∀ f ∈ d.Files, pathOk f.Path
  data : ∀ f ∈ d.Files, f.Data.length ≤ 4000
  sorted : d.Files.Pairwise (fun f g => slt f.Path g.Path = true)
  room : total d.Files ≤ d.Budget

theorem DiskFault_same (d : Disk) : impl_DiskFault d = spec_DiskFault d := by
  unfold impl_DiskFault spec_DiskFault
  have : impl_DiskFault_l1 d = spec_DiskFault_l1 d := by
    unfold impl_DiskFault_l1 spec_DiskFault_l1
    refine loop_congr fun i => ?_
    unfold impl_DiskFault_l1b spec_DiskFault_l1b
    split
    · cases hx : idx d.Files i with
      | none => rfl
      | some x => simp only [Option.bind_some, PathFault_eq]
    · rfl
  rw [this]
  rfl

theorem sorted_of {xs : List File} (h : ∀ i, (hi : i + 1 < xs.length) → slt xs[i].Path xs[i + 1].Path = true) : xs.Pairwise (fun f g => slt f.Path g.Path = true) := by
  induction xs with
  | nil => exact .nil
  | cons x xs ih =>
    have h' : ∀ i, (hi : i + 1 < xs.length) → slt xs[i].Path xs[i + 1].Path = true := fun i hi => h (i + 1) (by simp; omega)
    have ih' := ih h'
    refine .cons ?_ ih'
    cases xs with
    | nil => simp
    | cons y ys =>
      have hxy : slt x.Path y.Path = true := by simpa using h 0 (by simp)
      intro z hz
      rcases List.mem_cons.1 hz with rfl | hz
      · exact hxy
      · exact slt_trans hxy ((List.pairwise_cons.1 ih').1 z hz)

theorem DiskFault_spec (d : Disk) (h : d.Files.length ≤ 1048576) : ∃ c, spec_DiskFault d = some c ∧ (c = 0 → d.good) := by
  unfold spec_DiskFault
  simp only [in_eq, Option.bind_some]
  by_cases hB : 0 ≤ d.Budget ∧ d.Budget ≤ 20000
  · by_cases hW : 0 ≤ d.Writes ∧ d.Writes ≤ 1000000000
    · by_cases hS : -1 ≤ d.Stop ∧ d.Stop ≤ 1000000000
      · simp [hB.1, hB.2, hW.1, hW.2, hS.1, hS.2]
        by_cases hl : 120 < d.Files.length
        · rw [if_pos (by omega)]
          exact ⟨2, rfl, by simp⟩
        · rw [if_neg (by omega)]
          obtain ⟨t, e, ht⟩ := loop_up (b := spec_DiskFault_l1b d) (fun i s => s = (i : Int) ∧ (∀ j, (hj : j < d.Files.length) → j < i → pathOk d.Files[j].Path ∧ d.Files[j].Data.length ≤ 4000) ∧ ∀ j, (hj : j + 1 < d.Files.length) → j + 1 < i → slt d.Files[j].Path d.Files[j + 1].Path = true) d.Files.length
            (fun t => match t with | .ret r => r ≠ 0 | .nxt _ => (∀ f ∈ d.Files, pathOk f.Path ∧ f.Data.length ≤ 4000) ∧ d.Files.Pairwise (fun f g => slt f.Path g.Path = true)) (by
            rintro i s hi ⟨rfl, h1, h2⟩
            unfold spec_DiskFault_l1b
            rw [if_pos (by simp; omega)]
            obtain ⟨r, hr, hr2⟩ := PathFault_some d.Files[i].Path
            simp only [idx_nat hi, Option.bind_some, hr]
            by_cases hr0 : r = 0
            · subst hr0
              rw [if_neg (by simp)]
              have key : ∃ q, (if decide ((i : Int) > 0) then (idx d.Files (w64 ((i : Int) - 1))).bind fun x39 => some (slt d.Files[i].Path x39.Path || seq d.Files[i].Path x39.Path) else some false) = some q ∧ (q = false → ∀ j, (hj : j + 1 < d.Files.length) → j + 1 < i + 1 → slt d.Files[j].Path d.Files[j + 1].Path = true) := by
                by_cases hp : i = 0
                · subst hp
                  exact ⟨false, by simp, fun _ j hj hji => by omega⟩
                · rw [if_pos (by simp; omega), w64_of (by omega) (by omega), show ((i : Int) - 1) = ((i - 1 : Nat) : Int) by omega, idx_nat (show i - 1 < d.Files.length by omega)]
                  refine ⟨_, rfl, fun hq j hj hji => ?_⟩
                  rcases Nat.lt_or_ge (j + 1) i with hlt | hge
                  · exact h2 j hj hlt
                  · have hj1 : j + 1 = i := by omega
                    subst hj1
                    simp only [Bool.or_eq_false_iff] at hq
                    have hq1 := hq.1
                    have hq2 : d.Files[j + 1].Path ≠ d.Files[j].Path := fun e => by
                      have := hq.2
                      simp only [Nat.add_sub_cancel] at this
                      rw [e] at this
                      simp at this
                    simp only [Nat.add_sub_cancel] at hq1
                    exact slt_tri hq1 hq2
              obtain ⟨q, hq, hq2⟩ := key
              rw [hq]
              simp only [Option.bind_some]
              cases q with
              | true => exact .inr ⟨_, rfl, by simp⟩
              | false =>
                by_cases hd : (d.Files[i].Data.length : Int) > 4000
                · exact .inr ⟨.ret 2, by rw [if_neg (by simp), if_pos (by simpa using hd)], by simp⟩
                · refine .inl ⟨((i + 1 : Nat) : Int), ?_, rfl, fun j hj hji => ?_, hq2 rfl⟩
                  · rw [if_neg (by simp), if_neg (by simpa using hd), w64_nat (by omega)]
                  · rcases Nat.lt_or_ge j i with h' | h'
                    · exact h1 j hj h'
                    · have : j = i := by omega
                      subst this
                      exact ⟨hr2.1 rfl, by omega⟩
            · rw [if_pos (by simpa using hr0)]
              exact .inr ⟨_, rfl, hr0⟩) (by
            rintro s ⟨rfl, h1, h2⟩
            unfold spec_DiskFault_l1b
            rw [if_neg (by simp)]
            refine ⟨_, rfl, fun f hf => ?_, sorted_of (fun i hi => h2 i hi hi)⟩
            obtain ⟨j, hj, rfl⟩ := List.getElem_of_mem hf
            exact h1 j hj hj) d.Files.length 0 0 (by omega) ⟨rfl, fun j _ h => by omega, fun j _ h => by omega⟩
          simp only [spec_DiskFault_l1, e, Option.bind_some]
          cases t with
          | ret r => exact ⟨r, rfl, fun h => absurd h ht⟩
          | nxt u =>
            simp only [Fl.go]
            rw [l7Total_eq d h (fun f hf => by have := (ht.1 f hf).2; omega)]
            simp only [Option.bind_some]
            by_cases hr : d.Budget < total d.Files
            · rw [if_pos hr]
              exact ⟨8, rfl, by simp⟩
            · rw [if_neg hr]
              exact ⟨0, rfl, fun _ => ⟨hB.1, hB.2, hW.1, hW.2, hS.1, hS.2, by omega, fun f hf => (ht.1 f hf).1, fun f hf => (ht.1 f hf).2, ht.2, by omega⟩⟩
      · refine ⟨3, ?_, by simp⟩
        simp [hB.1, hB.2, hW.1, hW.2]
        intro a b
        exact absurd ⟨a, b⟩ hS
    · refine ⟨3, ?_, by simp⟩
      simp [hB.1, hB.2]
      rw [if_pos (by omega)]
      rfl
  · refine ⟨3, ?_, by simp⟩
    rw [if_pos (by simp; omega)]
    rfl
/-! ### The paths that begin with something -/
theorem begins_eq (s p : ByteArray) : strings_HasPrefix s p = spec_l7Begins s p := by
  unfold strings_HasPrefix internal_stringslite_HasPrefix spec_l7Begins
  split
  · cases ssub s 0 (p.size : Int) <;> rfl
  · rfl

def begins (s p : ByteArray) : Bool := decide (p.size ≤ s.size) && seq (s.extract 0 p.size) p

theorem l7Begins_eq (s p : ByteArray) : spec_l7Begins s p = some (begins s p) := by
  unfold spec_l7Begins begins
  by_cases h : p.size ≤ s.size
  · rw [if_pos (by simp; omega)]
    unfold ssub
    rw [if_pos (by omega)]
    simp [h]
  · rw [if_neg (by simp; omega)]
    simp [h]

theorem paths_same (d : Disk) (p : ByteArray) : impl_Disk_paths d p = spec_l7Paths d p := by
  have : impl_Disk_paths_l1 d p = spec_l7Paths_l1 d p := by
    unfold impl_Disk_paths_l1 spec_l7Paths_l1
    refine loop_congr fun s => ?_
    unfold impl_Disk_paths_l1b spec_l7Paths_l1b
    split
    · cases h : idx d.Files s.2 with
      | none => rfl
      | some x => simp only [Option.bind_some, begins_eq]
    · rfl
  unfold impl_Disk_paths spec_l7Paths
  rw [this]

def pathsOf (fs : List File) (p : ByteArray) : List ByteArray := (fs.filter (fun f => begins f.Path p)).map (·.Path)

theorem pathsOf_append (l r : List File) (p : ByteArray) : pathsOf (l ++ r) p = pathsOf l p ++ pathsOf r p := by
  simp [pathsOf]

theorem pathsOf_length (l : List File) (p : ByteArray) : (pathsOf l p).length ≤ l.length := by
  simp only [pathsOf, List.length_map]
  exact List.length_filter_le _ _

theorem l7Paths_eq (d : Disk) (p : ByteArray) (h : d.Files.length ≤ 1048576) : spec_l7Paths d p = some (pathsOf d.Files p) := by
  obtain ⟨t, e, rfl⟩ := loop_up (b := spec_l7Paths_l1b d p) (fun i s => s = (pathsOf (d.Files.take i) p, (i : Int))) d.Files.length (fun t => t = pathsOf d.Files p) (by
    rintro i s hi rfl
    unfold spec_l7Paths_l1b
    rw [if_pos (by simp; omega)]
    have hl := pathsOf_length (d.Files.take i) p
    have hl2 : (d.Files.take i).length ≤ i := by simp; omega
    have ha : ∀ x : ByteArray, app 16 (pathsOf (d.Files.take i) p) [x] = some (pathsOf (d.Files.take i) p ++ [x]) := fun x => app_of (by simp; omega) (by simp; omega)
    have hsplit : pathsOf (d.Files.take (i + 1)) p = pathsOf (d.Files.take i) p ++ pathsOf [d.Files[i]] p := by
      rw [List.take_succ_eq_append_getElem hi, pathsOf_append]
    simp only [idx_nat hi, Option.bind_some, l7Begins_eq, ha, w64_nat (show i < 9223372036854775807 by omega)]
    cases hb : begins d.Files[i].Path p with
    | true => exact .inl ⟨_, rfl, by rw [hsplit]; simp [pathsOf, hb]⟩
    | false => exact .inl ⟨_, rfl, by rw [hsplit]; simp [pathsOf, hb]⟩) (by
    rintro s rfl
    unfold spec_l7Paths_l1b
    rw [if_neg (by simp)]
    exact ⟨_, rfl, by simp⟩) d.Files.length 0 ([], 0) (by omega) (by simp [pathsOf])
  simp only [spec_l7Paths, spec_l7Paths_l1, e, Option.bind_some]
/-! ### Where a file stands -/
theorem cmp_less : ∀ (a b : List UInt8), (Lib.compareBytes a b < 0 ↔ Op.bytesLess a b = true) ∧ (Lib.compareBytes a b = 0 ↔ a = b)
  | [], [] => by simp [Lib.compareBytes, Op.bytesLess]
  | [], _ :: _ => by simp [Lib.compareBytes, Op.bytesLess]
  | _ :: _, [] => by simp [Lib.compareBytes, Op.bytesLess]
  | x :: a, y :: b => by
    obtain ⟨ih1, ih2⟩ := cmp_less a b
    simp only [Lib.compareBytes, Op.bytesLess]
    by_cases h1 : x < y
    · simp [h1]
      intro e; subst e; exact absurd h1 (by simp [UInt8.lt_irrefl])
    · by_cases h2 : y < x
      · simp [h1, h2]
        have hne : x ≠ y := fun e => by subst e; exact absurd h2 (by simp [UInt8.lt_irrefl])
        simp [hne]
      · have e : x = y := by
          rw [UInt8.lt_iff_toNat_lt] at h1 h2
          exact UInt8.toNat_inj.1 (by omega)
        subst e
        simp [UInt8.lt_irrefl, ih1, ih2]

theorem cmpB_lt (a b : ByteArray) : cmpB a b < 0 ↔ slt a b = true := by
  unfold cmpB slt
  rw [ByteArray.toList_eq, ByteArray.toList_eq]
  exact (cmp_less _ _).1

theorem cmpB_eq (a b : ByteArray) : cmpB a b = 0 ↔ a = b := by
  unfold cmpB
  rw [(cmp_less _ _).2, ← ByteArray.toList_eq, ← ByteArray.toList_eq]
  exact ⟨toList_inj, fun e => by rw [e]⟩

theorem half_eq {i j : Int} (h0 : 0 ≤ i) (h1 : i ≤ j) (h2 : j ≤ 4611686018427387903) : w64 ((IntKind.u64.wrap (w64 (i + j))).fdiv (2 ^ (min (1 : Int).toNat 64))) = (i + j) / 2 := by
  rw [w64_of (x := i + j) (by omega) (by omega)]
  have e1 : IntKind.u64.wrap (i + j) = i + j := by
    simp only [IntKind.wrap, IntKind.signed, IntKind.bits]
    simp
    omega
  rw [e1]
  have e2 : ((2 : Int) ^ (min (1 : Int).toNat 64)) = 2 := by decide
  rw [e2, Int.fdiv_eq_ediv_of_nonneg _ (by omega)]
  exact w64_of (by omega) (by omega)

theorem place_1_eq (f : File) (p : ByteArray) : impl_Disk_place_1 f p = some (cmpB f.Path p) := rfl

/-- How many files stand before a path. -/
def before (fs : List File) (p : ByteArray) : Nat := (fs.filter (fun f => slt f.Path p)).length

theorem place_some (fs : List File) (p : ByteArray) (h : fs.length ≤ 1048576) :
    ∃ (k : Nat) (b : Bool), slices_BinarySearchFunc_LimplFile_impl_Disk_place_1 fs p = some ((k : Int), b) ∧ k ≤ fs.length ∧ (b = true → ∃ hk : k < fs.length, fs[k].Path = p) ∧
      (fs.Pairwise (fun f g => slt f.Path g.Path = true) → (∀ i, (hi : i < fs.length) → i < k → slt fs[i].Path p = true) ∧ (∀ i, (hi : i < fs.length) → k ≤ i → slt fs[i].Path p = false) ∧ (b = false → ∀ f ∈ fs, f.Path ≠ p)) := by
  obtain ⟨t, e, k, rfl, hk, hs⟩ := loop_meas (b := slices_BinarySearchFunc_LimplFile_impl_Disk_place_1_l1b fs p)
    (fun s => ∃ i j : Nat, s = ((i : Int), (j : Int)) ∧ i ≤ j ∧ j ≤ fs.length ∧ (fs.Pairwise (fun f g => slt f.Path g.Path = true) → (∀ q, (hq : q < fs.length) → q < i → slt fs[q].Path p = true) ∧ (∀ q, (hq : q < fs.length) → j ≤ q → slt fs[q].Path p = false)))
    (fun s => (s.2 - s.1).toNat)
    (fun t => ∃ k : Nat, t = (k : Int) ∧ k ≤ fs.length ∧ (fs.Pairwise (fun f g => slt f.Path g.Path = true) → (∀ q, (hq : q < fs.length) → q < k → slt fs[q].Path p = true) ∧ (∀ q, (hq : q < fs.length) → k ≤ q → slt fs[q].Path p = false))) (by
    rintro s ⟨i, j, rfl, hij, hj, hP⟩
    unfold slices_BinarySearchFunc_LimplFile_impl_Disk_place_1_l1b
    by_cases hlt : i < j
    · left
      rw [if_pos (by simp; omega)]
      simp only
      rw [half_eq (by omega) (by omega) (by omega)]
      have hm : (((i : Int) + (j : Int)) / 2) = (((i + j) / 2 : Nat) : Int) := by omega
      rw [hm]
      have hmj : (i + j) / 2 < j := by omega
      have him : i ≤ (i + j) / 2 := by omega
      generalize (i + j) / 2 = m at *
      have hmn : m < fs.length := by omega
      simp only [idx_nat hmn, Option.bind_some, place_1_eq]
      by_cases hc : cmpB fs[m].Path p < 0
      · rw [if_pos (by simpa using hc), w64_nat (by omega)]
        refine ⟨_, rfl, ⟨m + 1, j, rfl, by omega, hj, fun hso => ?_⟩, by simp; omega⟩
        obtain ⟨g1, g2⟩ := hP hso
        refine ⟨fun q hq hqm => ?_, g2⟩
        have hl := (cmpB_lt _ _).1 hc
        rcases Nat.lt_or_ge q m with h' | h'
        · exact slt_trans (List.pairwise_iff_getElem.1 hso q m hq hmn h') hl
        · have : q = m := by omega
          subst this; exact hl
      · rw [if_neg (by simpa using hc)]
        refine ⟨_, rfl, ⟨i, m, rfl, by omega, by omega, fun hso => ?_⟩, by simp; omega⟩
        obtain ⟨g1, g2⟩ := hP hso
        refine ⟨g1, fun q hq hmq => ?_⟩
        have hl : slt fs[m].Path p = false := by
          cases h' : slt fs[m].Path p with
          | false => rfl
          | true => exact absurd ((cmpB_lt _ _).2 h') hc
        rcases Nat.lt_or_ge m q with h' | h'
        · cases hq2 : slt fs[q].Path p with
          | false => rfl
          | true =>
            have := slt_trans (List.pairwise_iff_getElem.1 hso m q hmn hq h') hq2
            rw [hl] at this; cases this
        · have : q = m := by omega
          subst this; exact hl
    · right
      rw [if_neg (by simp; omega)]
      have : i = j := by omega
      subst this
      exact ⟨_, rfl, i, rfl, by omega, hP⟩) fs.length (0, (fs.length : Int)) (by simp) ⟨0, fs.length, rfl, by omega, by omega, fun _ => ⟨fun q _ h => by omega, fun q hq h => by omega⟩⟩
  unfold slices_BinarySearchFunc_LimplFile_impl_Disk_place_1
  rw [show slices_BinarySearchFunc_LimplFile_impl_Disk_place_1_l1 fs p (0, (fs.length : Int)) = some (k : Int) from e]
  simp only [Option.bind_some]
  by_cases hkn : k < fs.length
  · rw [if_pos (by simpa using hkn)]
    simp only [idx_nat hkn, Option.bind_some, place_1_eq]
    refine ⟨k, _, rfl, hk, fun hb => ⟨hkn, (cmpB_eq _ _).1 (by simpa using hb)⟩, fun hso => ⟨(hs hso).1, (hs hso).2, fun hb f hf hfp => ?_⟩⟩
    have hne : cmpB fs[k].Path p ≠ 0 := by simpa using hb
    obtain ⟨q, hq, rfl⟩ := List.getElem_of_mem hf
    rcases Nat.lt_trichotomy q k with h' | h' | h'
    · have := (hs hso).1 q hq h'
      rw [hfp, slt_irrefl] at this; cases this
    · subst h'; exact hne ((cmpB_eq _ _).2 hfp)
    · have h1 := List.pairwise_iff_getElem.1 hso k q hkn hq h'
      have h2 := (hs hso).2 k hkn (Nat.le_refl _)
      rw [hfp] at h1
      rw [h1] at h2; cases h2
  · rw [if_neg (by simpa using hkn)]
    refine ⟨k, false, rfl, hk, (fun hb => by cases hb), fun hso => ⟨(hs hso).1, (hs hso).2, fun _ f hf hfp => ?_⟩⟩
    obtain ⟨q, hq, rfl⟩ := List.getElem_of_mem hf
    have := (hs hso).1 q hq (by omega)
    rw [hfp, slt_irrefl] at this; cases this

/-- What the reference finds. -/
theorem l7Find_some (d : Disk) (p : ByteArray) (h : d.Files.length ≤ 1048576) :
    (∃ k : Nat, ∃ hk : k < d.Files.length, spec_l7Find d p = some (k : Int) ∧ d.Files[k].Path = p) ∨ (spec_l7Find d p = some (-1) ∧ ∀ f ∈ d.Files, f.Path ≠ p) := by
  obtain ⟨t, e, ht⟩ := loop_up (b := spec_l7Find_l1b d p) (fun i s => s = (i : Int) ∧ ∀ q, (hq : q < d.Files.length) → q < i → d.Files[q].Path ≠ p) d.Files.length
    (fun t => match t with | .ret r => ∃ k : Nat, ∃ hk : k < d.Files.length, r = (k : Int) ∧ d.Files[k].Path = p | .nxt _ => ∀ f ∈ d.Files, f.Path ≠ p) (by
    rintro i s hi ⟨rfl, hq⟩
    unfold spec_l7Find_l1b
    rw [if_pos (by simp; omega)]
    simp only [idx_nat hi, Option.bind_some]
    by_cases hp : d.Files[i].Path = p
    · rw [if_pos (seq_iff.2 hp)]
      exact .inr ⟨_, rfl, i, hi, rfl, hp⟩
    · rw [if_neg (fun h' => hp (seq_iff.1 h')), w64_nat (by omega)]
      refine .inl ⟨_, rfl, rfl, fun q hq' hqi => ?_⟩
      rcases Nat.lt_or_ge q i with h' | h'
      · exact hq q hq' h'
      · have : q = i := by omega
        subst this; exact hp) (by
    rintro s ⟨rfl, hq⟩
    unfold spec_l7Find_l1b
    rw [if_neg (by simp)]
    refine ⟨_, rfl, fun f hf => ?_⟩
    obtain ⟨q, hq', rfl⟩ := List.getElem_of_mem hf
    exact hq q hq' hq') d.Files.length 0 0 (by omega) ⟨rfl, fun q _ h => by omega⟩
  unfold spec_l7Find
  rw [show spec_l7Find_l1 d p 0 = some t from e]
  cases t with
  | ret r =>
    obtain ⟨k, hk, rfl, hp⟩ := ht
    exact .inl ⟨k, hk, rfl, hp⟩
  | nxt _ => exact .inr ⟨rfl, ht⟩

theorem sorted_inj {fs : List File} (hs : fs.Pairwise (fun f g => slt f.Path g.Path = true)) {i j : Nat} (hi : i < fs.length) (hj : j < fs.length) (h : fs[i].Path = fs[j].Path) : i = j := by
  rcases Nat.lt_trichotomy i j with h' | h' | h'
  · have := List.pairwise_iff_getElem.1 hs i j hi hj h'
    rw [h, slt_irrefl] at this; cases this
  · exact h'
  · have := List.pairwise_iff_getElem.1 hs j i hj hi h'
    rw [h, slt_irrefl] at this; cases this

/-- Both find the same on a disk that is right. -/
theorem find_both (d : Disk) (p : ByteArray) (hg : d.good) :
    (∃ k : Nat, ∃ hk : k < d.Files.length, spec_l7Find d p = some (k : Int) ∧ slices_BinarySearchFunc_LimplFile_impl_Disk_place_1 d.Files p = some ((k : Int), true) ∧ d.Files[k].Path = p) ∨
      (spec_l7Find d p = some (-1) ∧ (∀ f ∈ d.Files, f.Path ≠ p) ∧ ∃ k : Nat, slices_BinarySearchFunc_LimplFile_impl_Disk_place_1 d.Files p = some ((k : Int), false) ∧ k ≤ d.Files.length ∧ (∀ i, (hi : i < d.Files.length) → i < k → slt d.Files[i].Path p = true) ∧ (∀ i, (hi : i < d.Files.length) → k ≤ i → slt d.Files[i].Path p = false)) := by
  have hl : d.Files.length ≤ 1048576 := by have := hg.len; omega
  obtain ⟨k, b, e, hk, h1, h2⟩ := place_some d.Files p hl
  obtain ⟨g1, g2, g3⟩ := h2 hg.sorted
  rcases l7Find_some d p hl with ⟨q, hq, e2, hp⟩ | ⟨e2, hp⟩
  · left
    cases b with
    | false => exact absurd hp (g3 rfl _ (List.getElem_mem hq))
    | true =>
      obtain ⟨hk', hp'⟩ := h1 rfl
      have : q = k := sorted_inj hg.sorted hq hk' (by rw [hp, hp'])
      subst this
      exact ⟨q, hq, e2, e, hp⟩
  · right
    cases b with
    | true =>
      obtain ⟨hk', hp'⟩ := h1 rfl
      exact absurd hp' (hp _ (List.getElem_mem hk'))
    | false => exact ⟨e2, hp, k, e, hk, g1, g2⟩

/-- The data of a path, by the program. -/
theorem data_some (d : Disk) (p : ByteArray) (h : d.Files.length ≤ 1048576) : ∃ r, impl_Disk_data d p = some r := by
  obtain ⟨k, b, e, hk, h1, _⟩ := place_some d.Files p h
  unfold impl_Disk_data impl_Disk_place
  rw [e]
  cases b with
  | false => exact ⟨_, rfl⟩
  | true =>
    obtain ⟨hk', _⟩ := h1 rfl
    simp only [Option.bind_some, Bool.not_true, Bool.false_eq_true, if_false, idx_nat hk']
    exact ⟨_, rfl⟩

theorem data_both (d : Disk) (p : ByteArray) (hg : d.good) :
    (∃ k : Nat, ∃ hk : k < d.Files.length, spec_l7Find d p = some (k : Int) ∧ impl_Disk_data d p = some (d.Files[k].Data, true) ∧ d.Files[k].Path = p) ∨
      (spec_l7Find d p = some (-1) ∧ impl_Disk_data d p = some ([], false) ∧ ∀ f ∈ d.Files, f.Path ≠ p) := by
  rcases find_both d p hg with ⟨k, hk, e1, e2, hp⟩ | ⟨e1, hp, k, e2, _⟩
  · left
    refine ⟨k, hk, e1, ?_, hp⟩
    unfold impl_Disk_data impl_Disk_place
    rw [e2]
    simp only [Option.bind_some, Bool.not_true, Bool.false_eq_true, if_false, idx_nat hk]
  · right
    refine ⟨e1, ?_, hp⟩
    unfold impl_Disk_data impl_Disk_place
    rw [e2]
    rfl
/-! ### Numbers in decimal -/
theorem bl_append (a b : ByteArray) : bl (a ++ b) = bl a ++ bl b := by
  unfold bl
  rw [ByteArray.toList_eq, ByteArray.toList_eq, ByteArray.toList_eq]
  simp

theorem bl_extract (s : ByteArray) (i j : Nat) : bl (s.extract i j) = ((bl s).drop i).take (j - i) := by
  unfold bl
  rw [ByteArray.toList_eq, ByteArray.toList_eq]
  simp [List.map_drop, List.map_take]

theorem bl_inj {a b : ByteArray} : bl a = bl b ↔ a = b := by
  constructor
  · intro h
    unfold bl at h
    refine toList_inj ?_
    have hinj : ∀ (x y : List UInt8), x.map (fun b => (b.toNat : Int)) = y.map (fun b => (b.toNat : Int)) → x = y := by
      intro x
      induction x with
      | nil => intro y h; cases y <;> simp_all
      | cons u x ih =>
        intro y h
        cases y with
        | nil => simp at h
        | cons v y =>
          simp only [List.map_cons, List.cons.injEq] at h
          rw [ih y h.2]
          have : u.toNat = v.toNat := by omega
          rw [UInt8.toNat_inj.1 this]
    exact hinj _ _ h
  · intro h; rw [h]

theorem seq_bl (a b : ByteArray) : seq a b = decide (bl a = bl b) := by
  rw [seq_eq]
  simp [bl_inj]

theorem bl_b2s1 {c : Int} (h0 : 0 ≤ c) (h1 : c ≤ 255) : bl (b2s [c]) = [c] := by
  unfold bl b2s
  rw [ByteArray.toList_eq]
  simp only [List.foldl_cons, List.foldl_nil]
  show [((UInt8.ofNat c.toNat).toNat : Int)] = [c]
  simp
  omega

theorem wrap_u8 {c : Int} (h0 : 0 ≤ c) (h1 : c ≤ 255) : IntKind.u8.wrap c = c := by
  simp only [IntKind.wrap, IntKind.signed, IntKind.bits]
  simp
  omega

theorem list_rev {P : List Int → Prop} (h0 : P []) (h1 : ∀ l c, P l → P (l ++ [c])) (l : List Int) : P l := by
  have key : ∀ m : List Int, P m.reverse := by
    intro m
    induction m with
    | nil => exact h0
    | cons c m ih => rw [List.reverse_cons]; exact h1 _ c ih
  have := key l.reverse
  rwa [List.reverse_reverse] at this

theorem bl_bs (l : List UInt8) : bl (bs l) = l.map (fun b => (b.toNat : Int)) := by
  unfold bl bs
  rw [ByteArray.toList_eq]

def digB (c : Int) : Bool := decide (c ≥ 48) && decide (c ≤ 57)
def val (l : List Int) : Int := l.foldl (fun a c => a * 10 + (c - 48)) 0

theorem val_snoc (l : List Int) (c : Int) : val (l ++ [c]) = val l * 10 + (c - 48) := by simp [val]

theorem val_bound {l : List Int} (h : ∀ c ∈ l, digB c = true) : 0 ≤ val l ∧ val l < 10 ^ l.length := by
  revert h
  refine list_rev (P := fun l => (∀ c ∈ l, digB c = true) → 0 ≤ val l ∧ val l < 10 ^ l.length) ?_ ?_ l
  · intro _; simp [val]
  · intro l c ih h
    obtain ⟨h1, h2⟩ := ih (fun x hx => h x (by simp [hx]))
    have hc := h c (by simp)
    simp only [digB, Bool.and_eq_true, decide_eq_true_eq] at hc
    rw [val_snoc, List.length_append, List.length_singleton, Int.pow_succ]
    omega

/-- Digits, so many at most, as a number. -/
def numL (l : List Int) (most : Int) : Option Int := if l.length < 1 ∨ (l.length : Int) > most ∨ ¬ (∀ c ∈ l, digB c = true) then none else some (val l)

theorem pow_le18 {n : Nat} (h : n ≤ 17) : (10 : Int) ^ n ≤ 100000000000000000 := by
  have : (10 : Nat) ^ n ≤ 10 ^ 17 := Nat.pow_le_pow_right (by omega) h
  have e : ((10 ^ n : Nat) : Int) = (10 : Int) ^ n := by simp
  rw [← e]
  omega

theorem spec_l1Digit_eq (c : Int) : spec_l1Digit c = some (digB c) := by
  unfold spec_l1Digit digB
  cases decide (c ≥ 48) <;> rfl

theorem l1Number_eq (s : ByteArray) (most : Int) (hm : most ≤ 17) : spec_l1Number s most = some (match numL (bl s) most with | some n => (n, true) | none => (0, false)) := by
  unfold spec_l1Number numL
  have hl := bl_length s
  by_cases h1 : s.size < 1
  · rw [if_pos (by simp; omega), if_pos (by omega)]
    rfl
  · rw [if_neg (by simp; omega)]
    simp only [Option.bind_some]
    by_cases h2 : (s.size : Int) > most
    · rw [if_pos (by simpa using h2), if_pos (by omega)]
    · rw [if_neg (by simpa using h2)]
      obtain ⟨t, e, ht⟩ := loop_up (b := spec_l1Number_l1b s) (fun i q => q = (val ((bl s).take i), (i : Int)) ∧ ∀ c ∈ (bl s).take i, digB c = true) (bl s).length
        (fun t => match t with | .ret r => r = (0, false) ∧ ¬ ∀ c ∈ bl s, digB c = true | .nxt v => v = val (bl s) ∧ ∀ c ∈ bl s, digB c = true) (by
        rintro i q hi ⟨rfl, hd⟩
        have hb := val_bound hd
        have hlen : ((bl s).take i).length ≤ 17 := by simp; omega
        have hp := pow_le18 hlen
        have hr := bl_range _ (List.getElem_mem hi)
        unfold spec_l1Number_l1b
        rw [if_pos (by simp; omega)]
        simp only [bidx_nat hi, Option.bind_some, spec_l1Digit_eq]
        cases hc : digB (bl s)[i] with
        | false => exact .inr ⟨_, rfl, rfl, fun h => by have := h _ (List.getElem_mem hi); rw [hc] at this; cases this⟩
        | true =>
          have hc' := hc
          simp only [digB, Bool.and_eq_true, decide_eq_true_eq] at hc'
          rw [wrap_u8 (by omega) (by omega), w64_of (x := (bl s)[i] - 48) (by omega) (by omega), w64_of (x := val ((bl s).take i) * 10) (by omega) (by omega), w64_of (by omega) (by omega), w64_nat (by omega)]
          refine .inl ⟨_, rfl, by rw [List.take_succ_eq_append_getElem hi, val_snoc], fun c hcm => ?_⟩
          rw [List.take_succ_eq_append_getElem hi] at hcm
          rcases List.mem_append.1 hcm with h | h
          · exact hd c h
          · simp at h; rw [h]; exact hc) (by
        rintro q ⟨rfl, hd⟩
        unfold spec_l1Number_l1b
        rw [if_neg (by simp; omega)]
        rw [List.take_length] at hd ⊢
        exact ⟨_, rfl, rfl, hd⟩) (bl s).length 0 (0, 0) (by omega) ⟨by simp [val], by simp⟩
      unfold spec_l1Number_l1
      rw [e]
      cases t with
      | ret r =>
        obtain ⟨rfl, h⟩ := ht
        rw [if_pos (.inr (.inr h))]
        rfl
      | nxt v =>
        obtain ⟨rfl, h⟩ := ht
        rw [if_neg (fun h' => by rcases h' with h' | h' | h' <;> first | omega | exact h' h)]
        rfl

theorem number_eq (s : ByteArray) (most : Int) (hm : most ≤ 17) : impl_number s most = some (match numL (bl s) most with | some n => n | none => -1) := by
  unfold impl_number numL
  have hl := bl_length s
  have he : seq s (bs []) = decide (s.size < 1) := by
    rw [seq_bl, bl_bs, List.map_nil]
    rw [Bool.eq_iff_iff]
    simp only [decide_eq_true_eq]
    constructor
    · intro h; rw [h] at hl; simp at hl; omega
    · intro h; exact List.eq_nil_of_length_eq_zero (by omega)
  rw [he]
  by_cases h1 : s.size < 1
  · rw [if_pos (by simpa using h1), if_pos (by omega)]
    rfl
  · rw [if_neg (by simpa using h1)]
    simp only [Option.bind_some]
    by_cases h2 : (s.size : Int) > most
    · rw [if_pos (by simpa using h2), if_pos (by omega)]
    · rw [if_neg (by simpa using h2)]
      obtain ⟨t, e, ht⟩ := loop_up (b := impl_number_l1b s) (fun i q => q = (val ((bl s).take i), (i : Int)) ∧ ∀ c ∈ (bl s).take i, digB c = true) (bl s).length
        (fun t => match t with | .ret r => r = -1 ∧ ¬ ∀ c ∈ bl s, digB c = true | .nxt v => v = val (bl s) ∧ ∀ c ∈ bl s, digB c = true) (by
        rintro i q hi ⟨rfl, hd⟩
        have hb := val_bound hd
        have hlen : ((bl s).take i).length ≤ 17 := by simp; omega
        have hp := pow_le18 hlen
        have hr := bl_range _ (List.getElem_mem hi)
        unfold impl_number_l1b
        rw [if_pos (by simp; omega)]
        simp only [bidx_nat hi, Option.bind_some]
        have hq : (if decide ((bl s)[i] < 48) = true then some true else some (decide ((bl s)[i] > 57))) = some (!digB (bl s)[i]) := by
          unfold digB
          by_cases a : (bl s)[i] < 48
          · have b : ¬ ((bl s)[i] ≥ 48) := by omega
            simp [a, b]
          · have b : (bl s)[i] ≥ 48 := by omega
            by_cases c : (bl s)[i] > 57
            · have d : ¬ ((bl s)[i] ≤ 57) := by omega
              simp [a, b, c, d]
            · have d : (bl s)[i] ≤ 57 := by omega
              simp [a, b, c, d]
        rw [hq]
        simp only [Option.bind_some]
        cases hc : digB (bl s)[i] with
        | false => exact .inr ⟨_, rfl, rfl, fun h => by have := h _ (List.getElem_mem hi); rw [hc] at this; cases this⟩
        | true =>
          have hc' := hc
          simp only [digB, Bool.and_eq_true, decide_eq_true_eq] at hc'
          rw [wrap_u8 (by omega) (by omega), w64_of (x := (bl s)[i] - 48) (by omega) (by omega), w64_of (x := 10 * val ((bl s).take i)) (by omega) (by omega), w64_of (by omega) (by omega), w64_nat (by omega)]
          refine .inl ⟨_, rfl, by rw [List.take_succ_eq_append_getElem hi, val_snoc, Int.mul_comm], fun c hcm => ?_⟩
          rw [List.take_succ_eq_append_getElem hi] at hcm
          rcases List.mem_append.1 hcm with h | h
          · exact hd c h
          · simp at h; rw [h]; exact hc) (by
        rintro q ⟨rfl, hd⟩
        unfold impl_number_l1b
        rw [if_neg (by simp; omega)]
        rw [List.take_length] at hd ⊢
        exact ⟨_, rfl, rfl, hd⟩) (bl s).length 0 (0, 0) (by omega) ⟨by simp [val], by simp⟩
      unfold impl_number_l1
      rw [e]
      cases t with
      | ret r =>
        obtain ⟨rfl, h⟩ := ht
        rw [if_pos (.inr (.inr h))]
        rfl
      | nxt v =>
        obtain ⟨rfl, h⟩ := ht
        rw [if_neg (fun h' => by rcases h' with h' | h' | h' <;> first | omega | exact h' h)]
        rfl

/-- The digits of a number. -/
def decL (n : Nat) : List Int := if n < 10 then [48 + (n : Int)] else decL (n / 10) ++ [48 + ((n % 10 : Nat) : Int)]
termination_by n
decreasing_by omega

theorem decL_small {n : Nat} (h : n < 10) : decL n = [48 + (n : Int)] := by rw [decL, if_pos h]
theorem decL_big {n : Nat} (h : ¬ n < 10) : decL n = decL (n / 10) ++ [48 + ((n % 10 : Nat) : Int)] := by rw [decL, if_neg h]

theorem decL_length : ∀ (k n : Nat), 10 ^ k ≤ n → n < 10 ^ (k + 1) → (decL n).length = k + 1
  | 0, n, _, h => by rw [decL_small (by simpa using h)]; rfl
  | k + 1, n, h1, h2 => by
    have hp : 1 ≤ 10 ^ k := Nat.one_le_pow _ _ (by omega)
    rw [Nat.pow_succ] at h1
    rw [Nat.pow_succ] at h2
    rw [decL_big (by omega), List.length_append, decL_length k (n / 10) (by omega) (by omega)]
    rfl

theorem decL_le : ∀ (k n : Nat), n < 10 ^ (k + 1) → (decL n).length ≤ k + 1
  | 0, n, h => by rw [decL_small (by simpa using h)]; simp
  | k + 1, n, h => by
    by_cases hn : n < 10
    · rw [decL_small hn]; simp
    · rw [Nat.pow_succ] at h
      rw [decL_big hn, List.length_append]
      have := decL_le k (n / 10) (by omega)
      simp only [List.length_singleton]
      omega

theorem decL_val {l : List Int} (h : ∀ c ∈ l, digB c = true) : decL (10 ^ l.length + (val l).toNat) = 49 :: l := by
  revert h
  refine list_rev (P := fun l => (∀ c ∈ l, digB c = true) → decL (10 ^ l.length + (val l).toNat) = 49 :: l) ?_ ?_ l
  · intro _; rw [decL_small (by decide)]; rfl
  · intro l c ih h
    have hl : ∀ c ∈ l, digB c = true := fun x hx => h x (by simp [hx])
    have hb := val_bound hl
    have hc := h c (by simp)
    simp only [digB, Bool.and_eq_true, decide_eq_true_eq] at hc
    have e1 : (val (l ++ [c])).toNat = (val l).toNat * 10 + (c - 48).toNat := by rw [val_snoc]; omega
    have e2 : 10 ^ (l ++ [c]).length = 10 ^ l.length * 10 := by rw [List.length_append, List.length_singleton, Nat.pow_succ]
    have hp : 1 ≤ 10 ^ l.length := Nat.one_le_pow _ _ (by omega)
    rw [e1, e2, decL_big (by omega)]
    have e3 : (10 ^ l.length * 10 + ((val l).toNat * 10 + (c - 48).toNat)) / 10 = 10 ^ l.length + (val l).toNat := by omega
    have e4 : (10 ^ l.length * 10 + ((val l).toNat * 10 + (c - 48).toNat)) % 10 = (c - 48).toNat := by omega
    rw [e3, e4, ih hl, List.cons_append]
    congr 3
    omega

theorem l1Decimal_r_eq (g : Int → Option ByteArray) (a1 : Int) : spec_l1Decimal_r g a1 = if decide (a1 < 10) then some (b2s [IntKind.u8.wrap (w64 (48 + a1))]) else (g (w64 (a1.tdiv 10))).bind fun x3 => (cat x3 (b2s [IntKind.u8.wrap (w64 (48 + (a1.tmod 10)))])).bind fun x5 => some x5 := rfl

theorem l1Decimal_fuel : ∀ (k f n : Nat), n < 10 ^ (k + 1) → k < f → n ≤ 9000000000000000000 → k ≤ 100 → ∃ s, recF spec_l1Decimal_r f (n : Int) = some s ∧ bl s = decL n
  | k, 0, n, _, hf, _, _ => by omega
  | k, f + 1, n, h, hf, hn, hk => by
    rw [show recF spec_l1Decimal_r (f + 1) (n : Int) = spec_l1Decimal_r (recF spec_l1Decimal_r f) (n : Int) from rfl, l1Decimal_r_eq]
    by_cases h1 : n < 10
    · rw [if_pos (by simp; omega), w64_of (by omega) (by omega), wrap_u8 (by omega) (by omega)]
      exact ⟨_, rfl, by rw [bl_b2s1 (by omega) (by omega), decL_small h1]⟩
    · rw [if_neg (by simp; omega)]
      cases k with
      | zero => simp at h; omega
      | succ k =>
        have e1 : w64 ((n : Int).tdiv 10) = ((n / 10 : Nat) : Int) := by
          rw [Int.tdiv_eq_ediv_of_nonneg (by omega), w64_of (by omega) (by omega)]; omega
        have e2 : (n : Int).tmod 10 = ((n % 10 : Nat) : Int) := by
          rw [Int.tmod_eq_emod_of_nonneg (by omega)]; omega
        rw [Nat.pow_succ] at h
        obtain ⟨s, e, hs⟩ := l1Decimal_fuel k f (n / 10) (by omega) (by omega) (by omega) (by omega)
        rw [e1, e2, e, w64_of (by omega) (by omega), wrap_u8 (by omega) (by omega)]
        have hsz : s.size ≤ k + 1 := by
          rw [← bl_length, hs]
          exact decL_le k (n / 10) (by omega)
        simp only [Option.bind_some]
        unfold cat
        rw [if_pos (by have : (b2s [48 + ((n % 10 : Nat) : Int)]).size = 1 := rfl; omega)]
        exact ⟨_, rfl, by rw [bl_append, hs, bl_b2s1 (by omega) (by omega), decL_big h1]⟩

theorem l1Decimal_some (n : Nat) (h : n ≤ 9000000000000000000) : ∃ s, spec_l1Decimal (n : Int) = some s ∧ bl s = decL n :=
  l1Decimal_fuel 18 64 n (by omega) (by omega) h (by omega)
/-! ### Generations -/
def genP : List Int := [103, 101, 110, 47]

theorem bl_gen : bl (bs [103, 101, 110, 47]) = genP := bl_bs _

theorem GenPath_eq (n : Int) : ∃ s, spec_GenPath n = some s ∧ bl s = (if 1 ≤ n ∧ n ≤ 999999 then genP ++ (decL (1000000 + n.toNat)).drop 1 else []) := by
  unfold spec_GenPath
  rw [in_eq]
  simp only [Option.bind_some]
  by_cases h : 1 ≤ n ∧ n ≤ 999999
  · rw [if_pos h]
    have hb : (decide (n ≥ 1) && decide (n ≤ 999999)) = true := by simp; omega
    rw [hb]
    rw [w64_of (by omega) (by omega), show (1000000 : Int) + n = ((1000000 + n.toNat : Nat) : Int) by omega]
    obtain ⟨s, e, hs⟩ := l1Decimal_some (1000000 + n.toNat) (by omega)
    have hlen : (decL (1000000 + n.toNat)).length = 7 := decL_length 6 _ (by omega) (by omega)
    have hsz : s.size = 7 := by rw [← bl_length, hs, hlen]
    rw [e]
    simp only [Bool.not_true, Bool.false_eq_true, if_false, Option.bind_some]
    unfold ssub
    rw [if_pos (by omega)]
    simp only [Option.bind_some]
    have hx : (s.extract (1 : Int).toNat ((s.size : Int)).toNat).size = 6 := by
      rw [← bl_length, bl_extract, List.length_take, List.length_drop, hs, hlen, hsz]
      rfl
    unfold cat
    rw [if_pos (by have : (bs [103, 101, 110, 47]).size = 4 := rfl; omega)]
    refine ⟨_, rfl, ?_⟩
    rw [bl_append, bl_gen, bl_extract, hs]
    congr 1
    rw [List.take_of_length_le (by rw [List.length_drop, hlen, hsz]; decide)]
    rfl
  · rw [if_neg h]
    have hb : (decide (n ≥ 1) && decide (n ≤ 999999)) = false := by
      simp only [Bool.and_eq_false_iff, decide_eq_false_iff_not]; omega
    rw [hb]
    exact ⟨_, rfl, bl_bs _⟩

/-- The generation that a path names. -/
def genOf (l : List Int) : Option Int := match numL (l.drop 4) 6 with
  | some n => if n ≥ 1 ∧ l.length = 10 then some n else none
  | none => none

/-- The reference asks whether the path is the generation's own. -/
theorem gen_iff {l : List Int} (hp : l.take 4 = genP) (hl : 4 ≤ l.length) {n : Int} (h : numL (l.drop 4) 6 = some n) :
    (if 1 ≤ n ∧ n ≤ 999999 then genP ++ (decL (1000000 + n.toNat)).drop 1 else []) = l ↔ (n ≥ 1 ∧ l.length = 10) := by
  unfold numL at h
  split at h
  · cases h
  · rename_i hc
    cases h
    have hc1 : 1 ≤ (l.drop 4).length := by omega
    have hc2 : (l.drop 4).length ≤ 6 := by omega
    have hd : ∀ c ∈ l.drop 4, digB c = true := Classical.byContradiction fun h => hc (.inr (.inr h))
    have hb := val_bound hd
    have hle : val (l.drop 4) ≤ 999999 := by
      have : (10 : Nat) ^ (l.drop 4).length ≤ 10 ^ 6 := Nat.pow_le_pow_right (by omega) hc2
      have e : (((10 : Nat) ^ (l.drop 4).length : Nat) : Int) = (10 : Int) ^ (l.drop 4).length := by simp
      omega
    have hll : l.length = 4 + (l.drop 4).length := by simp; omega
    by_cases hn : 1 ≤ val (l.drop 4)
    · rw [if_pos ⟨hn, hle⟩]
      constructor
      · intro e
        refine ⟨hn, ?_⟩
        rw [← e, List.length_append, List.length_drop, decL_length 6 _ (by omega) (by omega)]
        rfl
      · rintro ⟨_, h10⟩
        have h6 : (l.drop 4).length = 6 := by omega
        have key := decL_val hd
        rw [h6, show (10 : Nat) ^ 6 = 1000000 from rfl] at key
        rw [key, ← hp]
        simp
    · rw [if_neg (by omega)]
      constructor
      · intro e
        rw [← e] at hll
        simp at hll
      · rintro ⟨h', _⟩; omega

theorem begins_bl {s p : ByteArray} (h : begins s p = true) : (bl s).take (bl p).length = bl p ∧ (bl p).length ≤ (bl s).length := by
  unfold begins at h
  simp only [Bool.and_eq_true, decide_eq_true_eq] at h
  have := seq_iff.1 h.2
  refine ⟨?_, by rw [bl_length, bl_length]; exact h.1⟩
  have e := congrArg bl this
  rw [bl_extract] at e
  simpa [bl_length] using e

theorem pathsOf_mem {fs : List File} {p : ByteArray} : ∀ s ∈ pathsOf fs p, begins s p = true := by
  intro s hs
  unfold pathsOf at hs
  obtain ⟨f, hf, rfl⟩ := List.mem_map.1 hs
  exact (List.mem_filter.1 hf).2

def gensL (fs : List File) : List Int := (pathsOf fs (bs [103, 101, 110, 47])).filterMap (fun p => genOf (bl p))

theorem gens_prefix {ps : List ByteArray} (h : ∀ s ∈ ps, begins s (bs [103, 101, 110, 47]) = true) {i : Nat} (hi : i < ps.length) : (bl ps[i]).take 4 = genP ∧ 4 ≤ (bl ps[i]).length := by
  have := begins_bl (h _ (List.getElem_mem hi))
  rw [bl_gen] at this
  exact this

theorem ssub_tail {s : ByteArray} {k : Nat} (h : k ≤ s.size) : ∃ t, ssub s (k : Int) (s.size : Int) = some t ∧ bl t = (bl s).drop k := by
  unfold ssub
  rw [if_pos (by omega)]
  refine ⟨_, rfl, ?_⟩
  rw [bl_extract]
  simp only [Int.toNat_natCast]
  rw [List.take_of_length_le (by rw [List.length_drop, bl_length]; exact Nat.le_refl _)]

theorem fm_len {f : ByteArray → Option Int} : ∀ (l : List ByteArray), (l.filterMap f).length ≤ l.length := fun l => List.length_filterMap_le f l

theorem l8Gens_eq (d : Disk) (h : d.Files.length ≤ 1048576) : spec_l8Gens d = some (gensL d.Files) := by
  unfold spec_l8Gens gensL
  rw [l7Paths_eq d _ h]
  simp only [Option.bind_some]
  have hm := pathsOf_mem (fs := d.Files) (p := bs [103, 101, 110, 47])
  have hlen := pathsOf_length d.Files (bs [103, 101, 110, 47])
  generalize pathsOf d.Files (bs [103, 101, 110, 47]) = ps at *
  obtain ⟨t, e, rfl⟩ := loop_up (b := spec_l8Gens_l1b d ps) (fun i s => s = ((ps.take i).filterMap (fun p => genOf (bl p)), (i : Int))) ps.length (fun t => t = ps.filterMap (fun p => genOf (bl p))) (by
    rintro i s hi rfl
    obtain ⟨hp, h4⟩ := gens_prefix hm hi
    have hsz : 4 ≤ ps[i].size := by rw [← bl_length]; exact h4
    obtain ⟨u, hu, hub⟩ := ssub_tail (s := ps[i]) (k := 4) hsz
    have hu' : ssub ps[i] 4 (ps[i].size : Int) = some u := hu
    have hfl := fm_len (f := fun p => genOf (bl p)) (ps.take i)
    have hil : (ps.take i).length ≤ i := by simp; omega
    have ha : ∀ x : Int, app 8 ((ps.take i).filterMap (fun p => genOf (bl p))) [x] = some ((ps.take i).filterMap (fun p => genOf (bl p)) ++ [x]) := fun x => app_of (by simp; omega) (by simp; omega)
    have hsplit : (ps.take (i + 1)).filterMap (fun p => genOf (bl p)) = (ps.take i).filterMap (fun p => genOf (bl p)) ++ [ps[i]].filterMap (fun p => genOf (bl p)) := by
      rw [List.take_succ_eq_append_getElem hi, List.filterMap_append]
    unfold spec_l8Gens_l1b
    rw [if_pos (by simp; omega)]
    simp only [idx_nat hi, Option.bind_some, hu', l1Number_eq u 6 (by omega), hub, w64_nat (show i < 9223372036854775807 by omega)]
    left
    cases hn : numL ((bl ps[i]).drop 4) 6 with
    | none =>
      refine ⟨_, rfl, ?_⟩
      rw [hsplit]
      simp [genOf, hn]
    | some n =>
      obtain ⟨g, hg, hgb⟩ := GenPath_eq n
      have hiff := gen_iff hp h4 hn
      rw [← hgb] at hiff
      simp only [if_true, hg, Option.bind_some]
      rw [seq_bl]
      by_cases hc : n ≥ 1 ∧ (bl ps[i]).length = 10
      · rw [decide_eq_true (hiff.2 hc)]
        simp only [Option.bind_some, if_true, ha]
        refine ⟨_, rfl, ?_⟩
        rw [hsplit]
        simp [genOf, hn, hc]
      · rw [decide_eq_false (fun e => hc (hiff.1 e))]
        refine ⟨_, rfl, ?_⟩
        rw [hsplit]
        simp only [List.filterMap_cons, genOf, hn, if_neg hc, List.filterMap_nil, List.append_nil]) (by
    rintro s rfl
    unfold spec_l8Gens_l1b
    rw [if_neg (by simp)]
    exact ⟨_, rfl, by simp⟩) ps.length 0 ([], 0) (by omega) (by simp)
  simp only [spec_l8Gens_l1, e, Option.bind_some]

theorem gens_eq (d : Disk) (h : d.Files.length ≤ 1048576) : impl_Disk_gens d = some (gensL d.Files) := by
  unfold impl_Disk_gens gensL
  rw [paths_same, l7Paths_eq d _ h]
  simp only [Option.bind_some]
  have hm := pathsOf_mem (fs := d.Files) (p := bs [103, 101, 110, 47])
  have hlen := pathsOf_length d.Files (bs [103, 101, 110, 47])
  generalize pathsOf d.Files (bs [103, 101, 110, 47]) = ps at *
  obtain ⟨t, e, rfl⟩ := loop_up (b := impl_Disk_gens_l1b ps) (fun i s => s = ((ps.take i).filterMap (fun p => genOf (bl p)), (i : Int))) ps.length (fun t => t = ps.filterMap (fun p => genOf (bl p))) (by
    rintro i s hi rfl
    obtain ⟨hp, h4⟩ := gens_prefix hm hi
    have hsz : 4 ≤ ps[i].size := by rw [← bl_length]; exact h4
    obtain ⟨u, hu, hub⟩ := ssub_tail (s := ps[i]) (k := 4) hsz
    have hu' : ssub ps[i] 4 (ps[i].size : Int) = some u := hu
    have hfl := fm_len (f := fun p => genOf (bl p)) (ps.take i)
    have hil : (ps.take i).length ≤ i := by simp; omega
    have ha : ∀ x : Int, app 8 ((ps.take i).filterMap (fun p => genOf (bl p))) [x] = some ((ps.take i).filterMap (fun p => genOf (bl p)) ++ [x]) := fun x => app_of (by simp; omega) (by simp; omega)
    have hsplit : (ps.take (i + 1)).filterMap (fun p => genOf (bl p)) = (ps.take i).filterMap (fun p => genOf (bl p)) ++ [ps[i]].filterMap (fun p => genOf (bl p)) := by
      rw [List.take_succ_eq_append_getElem hi, List.filterMap_append]
    unfold impl_Disk_gens_l1b
    rw [if_pos (by simp; omega)]
    simp only [idx_nat hi, Option.bind_some, hu', number_eq u 6 (by omega), hub, w64_nat (show i < 9223372036854775807 by omega)]
    left
    cases hn : numL ((bl ps[i]).drop 4) 6 with
    | none =>
      refine ⟨_, rfl, ?_⟩
      rw [hsplit]
      simp [genOf, hn]
    | some n =>
      have hbl : ((ps[i].size : Int) == 10) = decide ((bl ps[i]).length = 10) := by
        rw [bl_length, Bool.eq_iff_iff]; simp; omega
      simp only [hbl]
      by_cases h1 : n ≥ 1
      · rw [if_pos (by simpa using h1)]
        by_cases h2 : (bl ps[i]).length = 10
        · rw [decide_eq_true h2]
          simp only [Option.bind_some, if_true, ha]
          refine ⟨_, rfl, ?_⟩
          rw [hsplit]
          simp [genOf, hn, h1, h2]
        · rw [decide_eq_false h2]
          refine ⟨_, rfl, ?_⟩
          rw [hsplit]
          simp [genOf, hn, h2]
      · rw [if_neg (by simpa using h1)]
        refine ⟨_, rfl, ?_⟩
        rw [hsplit]
        simp only [List.filterMap_cons, genOf, hn, if_neg (fun h' : n ≥ 1 ∧ (bl ps[i]).length = 10 => h1 h'.1), List.filterMap_nil, List.append_nil]) (by
    rintro s rfl
    unfold impl_Disk_gens_l1b
    rw [if_neg (by simp)]
    exact ⟨_, rfl, by simp⟩) ps.length 0 ([], 0) (by omega) (by simp)
  simp only [impl_Disk_gens_l1, e, Option.bind_some]

theorem gensL_length (fs : List File) : (gensL fs).length ≤ fs.length := by
  unfold gensL
  have h1 := fm_len (f := fun p => genOf (bl p)) (pathsOf fs (bs [103, 101, 110, 47]))
  have h2 := pathsOf_length fs (bs [103, 101, 110, 47])
  omega
/-! ### More on generations -/
def lessI : List Int → List Int → Bool
  | _, [] => false
  | [], _ :: _ => true
  | a :: x, b :: y => decide (a < b) || (a == b && lessI x y)

theorem slt_lessI (a b : ByteArray) : slt a b = lessI (bl a) (bl b) := by
  unfold slt bl
  generalize a.toList = x
  generalize b.toList = y
  induction x generalizing y with
  | nil => cases y <;> rfl
  | cons u x ih =>
    cases y with
    | nil => rfl
    | cons v y =>
      simp only [Op.bytesLess, List.map_cons, lessI, ih y]
      congr 1
      · rw [Bool.eq_iff_iff]; simp [UInt8.lt_iff_toNat_lt]
      · congr 1
        rw [Bool.eq_iff_iff]
        simp only [beq_iff_eq]
        constructor
        · intro h; rw [h]
        · intro h; exact UInt8.toNat_inj.1 (by omega)

theorem val_cons (x : Int) (l : List Int) : val (x :: l) = (x - 48) * 10 ^ l.length + val l := by
  refine list_rev (P := fun l => val (x :: l) = (x - 48) * 10 ^ l.length + val l) ?_ ?_ l
  · simp [val]
  · intro l c ih
    rw [← List.cons_append, val_snoc, val_snoc, ih, List.length_append, List.length_singleton, Int.pow_succ]
    rw [Int.add_mul, Int.mul_assoc]
    omega

theorem less_val : ∀ {a b : List Int}, a.length = b.length → (∀ c ∈ a, digB c = true) → (∀ c ∈ b, digB c = true) → lessI a b = true → val a < val b
  | [], [], _, _, _, h => by simp [lessI] at h
  | x :: a, y :: b, hl, ha, hb, h => by
    have hl' : a.length = b.length := by simpa using hl
    have ba := val_bound (l := a) (fun c hc => ha c (by simp [hc]))
    have bb := val_bound (l := b) (fun c hc => hb c (by simp [hc]))
    rw [val_cons, val_cons, hl']
    rw [hl'] at ba
    simp only [lessI, Bool.or_eq_true, decide_eq_true_eq, Bool.and_eq_true, beq_iff_eq] at h
    rcases h with h | ⟨rfl, h⟩
    · have e : (y - 48) * 10 ^ b.length = (x - 48) * 10 ^ b.length + (y - x) * 10 ^ b.length := by rw [← Int.add_mul]; congr 1; omega
      have : 1 * (10 : Int) ^ b.length ≤ (y - x) * 10 ^ b.length := Int.mul_le_mul_of_nonneg_right (by omega) (by omega)
      omega
    · have := less_val hl' (fun c hc => ha c (by simp [hc])) (fun c hc => hb c (by simp [hc])) h
      omega
  | [], _ :: _, hl, _, _, _ => by simp at hl
  | _ :: _, [], hl, _, _, _ => by simp at hl

theorem lessI_prefix : ∀ (p a b : List Int), lessI (p ++ a) (p ++ b) = lessI a b
  | [], _, _ => rfl
  | x :: p, a, b => by simp [lessI, lessI_prefix p a b]

theorem genOf_spec {l : List Int} {n : Int} (h : genOf l = some n) : l.length = 10 ∧ (∀ c ∈ l.drop 4, digB c = true) ∧ n = val (l.drop 4) ∧ 1 ≤ n ∧ n ≤ 999999 := by
  unfold genOf at h
  cases hn : numL (l.drop 4) 6 with
  | none => rw [hn] at h; cases h
  | some m =>
    rw [hn] at h
    simp only at h
    split at h
    · rename_i hc
      cases h
      unfold numL at hn
      split at hn
      · cases hn
      · rename_i hc2
        cases hn
        have hd : ∀ c ∈ l.drop 4, digB c = true := Classical.byContradiction fun h => hc2 (.inr (.inr h))
        have hb := val_bound hd
        have h6 : (l.drop 4).length = 6 := by rw [List.length_drop, hc.2]
        rw [h6] at hb
        exact ⟨hc.2, hd, rfl, hc.1, by omega⟩
    · cases h

theorem gensL_mem {fs : List File} {n : Int} (h : n ∈ gensL fs) : 1 ≤ n ∧ n ≤ 999999 := by
  unfold gensL at h
  obtain ⟨p, _, hp⟩ := List.mem_filterMap.1 h
  exact (genOf_spec hp).2.2.2

theorem gensL_sorted {fs : List File} (hs : fs.Pairwise (fun f g => slt f.Path g.Path = true)) : (gensL fs).Pairwise (· < ·) := by
  unfold gensL
  have h1 : (pathsOf fs (bs [103, 101, 110, 47])).Pairwise (fun a b => slt a b = true) := by
    unfold pathsOf
    rw [List.pairwise_map]
    exact List.Pairwise.filter _ hs
  have h2 := pathsOf_mem (fs := fs) (p := bs [103, 101, 110, 47])
  generalize pathsOf fs (bs [103, 101, 110, 47]) = ps at *
  rw [List.pairwise_filterMap]
  refine List.Pairwise.imp_of_mem ?_ h1
  intro a b ha hb hab x hx y hy
  obtain ⟨a1, a2, rfl, _, _⟩ := genOf_spec hx
  obtain ⟨b1, b2, rfl, _, _⟩ := genOf_spec hy
  have pa := begins_bl (h2 a ha)
  have pb := begins_bl (h2 b hb)
  rw [bl_gen] at pa pb
  refine less_val (by rw [List.length_drop, List.length_drop, a1, b1]) a2 b2 ?_
  rw [slt_lessI, ← List.take_append_drop 4 (bl a), ← List.take_append_drop 4 (bl b)] at hab
  rw [show (bl a).take 4 = genP from pa.1, show (bl b).take 4 = genP from pb.1, lessI_prefix] at hab
  exact hab

theorem bl_b2s {l : List Int} (h : ∀ c ∈ l, 0 ≤ c ∧ c ≤ 255) : bl (b2s l) = l := by
  refine (list_rev (P := fun l => (∀ c ∈ l, 0 ≤ c ∧ c ≤ 255) → bl (b2s l) = l) ?_ ?_ l) h
  · intro _; exact bl_bs []
  · intro l c ih h
    have e : b2s (l ++ [c]) = b2s l ++ b2s [c] := by
      unfold b2s
      rw [List.foldl_append]
      generalize List.foldl (fun r n => ByteArray.push r (UInt8.ofNat n.toNat)) ByteArray.empty l = x
      simp only [List.foldl_cons, List.foldl_nil]
      generalize UInt8.ofNat c.toNat = u
      apply toList_inj
      rw [ByteArray.toList_eq, ByteArray.toList_eq]
      simp
    rw [e, bl_append, ih (fun x hx => h x (by simp [hx])), bl_b2s1 (h c (by simp)).1 (h c (by simp)).2]
theorem l1Has_eq (l : List Int) (v : Int) (h : l.length ≤ 1048576) : spec_l1Has l v = some (decide (v ∈ l)) := by
  obtain ⟨t, e, ht⟩ := loop_up (b := spec_l1Has_l1b l v) (fun i s => s = (i : Int) ∧ v ∉ l.take i) l.length (fun t => match t with | .ret r => r = true ∧ v ∈ l | .nxt _ => v ∉ l) (by
    rintro i s hi ⟨rfl, hv⟩
    unfold spec_l1Has_l1b
    rw [if_pos (by simp; omega)]
    simp only [idx_nat hi, Option.bind_some]
    by_cases hc : l[i] = v
    · rw [if_pos (by simpa using hc)]
      exact .inr ⟨_, rfl, rfl, hc ▸ List.getElem_mem hi⟩
    · rw [if_neg (by simpa using hc), w64_nat (by omega)]
      refine .inl ⟨_, rfl, rfl, ?_⟩
      rw [List.take_succ_eq_append_getElem hi]
      simp only [List.mem_append, List.mem_singleton, not_or]
      exact ⟨hv, fun e => hc e.symm⟩) (by
    rintro s ⟨rfl, hv⟩
    unfold spec_l1Has_l1b
    rw [if_neg (by simp)]
    rw [List.take_length] at hv
    exact ⟨_, rfl, hv⟩) l.length 0 0 (by omega) ⟨rfl, by simp⟩
  unfold spec_l1Has
  rw [show spec_l1Has_l1 l v 0 = some t from e]
  cases t with
  | ret r => obtain ⟨rfl, hm⟩ := ht; simp [Fl.go, hm]
  | nxt _ => simp only [Fl.go, Option.bind_some]; rw [decide_eq_false ht]

theorem Index_eq (l : List Int) (v : Int) (h : l.length ≤ 1048576) : slices_Contains_Lint64 l v = some (decide (v ∈ l)) := by
  obtain ⟨t, e, ht⟩ := loop_up (b := slices_Index_Lint64_l1b l v) (fun i s => s = (i : Int) ∧ v ∉ l.take i) l.length (fun t => match t with | .ret r => 0 ≤ r ∧ v ∈ l | .nxt _ => v ∉ l) (by
    rintro i s hi ⟨rfl, hv⟩
    unfold slices_Index_Lint64_l1b
    rw [if_pos (by simp; omega)]
    simp only [idx_nat hi, Option.bind_some]
    by_cases hc : v = l[i]
    · rw [if_pos (by simpa using hc)]
      exact .inr ⟨_, rfl, by omega, hc ▸ List.getElem_mem hi⟩
    · rw [if_neg (by simpa using hc), w64_nat (by omega)]
      refine .inl ⟨_, rfl, rfl, ?_⟩
      rw [List.take_succ_eq_append_getElem hi]
      simp only [List.mem_append, List.mem_singleton, not_or]
      exact ⟨hv, hc⟩) (by
    rintro s ⟨rfl, hv⟩
    unfold slices_Index_Lint64_l1b
    rw [if_neg (by simp)]
    rw [List.take_length] at hv
    exact ⟨_, rfl, hv⟩) l.length 0 0 (by omega) ⟨rfl, by simp⟩
  unfold slices_Contains_Lint64 slices_Index_Lint64
  rw [show slices_Index_Lint64_l1 l v 0 = some t from e]
  cases t with
  | ret r => obtain ⟨h0, hm⟩ := ht; simp [Fl.go, hm, h0]
  | nxt _ => simp only [Fl.go, Option.bind_some]; rw [decide_eq_false ht]; rfl

/-- The current generation; none: there is none. -/
def curOf (d : Disk) : Option Int := match d.Files.find? (fun f => decide (f.Path = bs [99, 117, 114])) with
  | none => none
  | some f => match numL f.Data 6 with
    | none => none
    | some n => if n ∈ gensL d.Files then some n else none

theorem find_of {fs : List File} {p : ByteArray} {k : Nat} (hs : fs.Pairwise (fun f g => slt f.Path g.Path = true)) (hk : k < fs.length) (hp : fs[k].Path = p) : fs.find? (fun f => decide (f.Path = p)) = some fs[k] := by
  rw [List.find?_eq_some_iff_getElem]
  refine ⟨by simp [hp], k, hk, rfl, fun j hj => ?_⟩
  simp only [Bool.not_eq_eq_eq_not, Bool.not_true, decide_eq_false_iff_not]
  intro e
  have := sorted_inj hs (by omega) hk (e.trans hp.symm)
  omega

theorem find_none {fs : List File} {p : ByteArray} (h : ∀ f ∈ fs, f.Path ≠ p) : fs.find? (fun f => decide (f.Path = p)) = none := by
  rw [List.find?_eq_none]
  intro f hf
  simpa using h f hf

theorem current_both (d : Disk) (hg : d.good) (hb : ∀ f ∈ d.Files, ∀ c ∈ f.Data, 0 ≤ c ∧ c ≤ 255) :
    spec_l8Current d = some ((curOf d).getD 0) ∧ impl_Disk_current d = some ((curOf d).getD 0, match curOf d with | some _ => 0 | none => 4) := by
  have hl : d.Files.length ≤ 1048576 := by have := hg.len; omega
  have hgl := gensL_length d.Files
  unfold spec_l8Current impl_Disk_current
  rcases data_both d (bs [99, 117, 114]) hg with ⟨k, hk, e1, e2, hp⟩ | ⟨e1, e2, hp⟩
  · have hf := find_of hg.sorted hk hp
    have hbk := bl_b2s (hb _ (List.getElem_mem hk))
    have hn : ¬ ((k : Int) < 0) := by omega
    rw [e1, e2, l8Gens_eq d hl, gens_eq d hl]
    simp only [Option.bind_some, idx_nat hk, l1Number_eq _ 6 (by omega), number_eq _ 6 (by omega), hbk, decide_eq_false hn, Bool.false_eq_true, if_false]
    unfold curOf
    rw [hf]
    simp only
    cases hnum : numL d.Files[k].Data 6 with
    | none =>
      have hneg : ¬ ((-1 : Int) ∈ gensL d.Files) := fun h => by have := gensL_mem h; omega
      simp [Index_eq _ _ (show (gensL d.Files).length ≤ 1048576 by omega), hneg]
    | some n =>
      simp only [Index_eq _ _ (show (gensL d.Files).length ≤ 1048576 by omega), l1Has_eq _ _ (show (gensL d.Files).length ≤ 1048576 by omega)]
      by_cases hm : n ∈ gensL d.Files
      · simp [hm]
      · simp [hm]
  · have hf := find_none hp
    rw [e1, e2]
    simp only [Option.bind_some, number_eq _ 6 (by omega)]
    unfold curOf
    rw [hf]
    simp

theorem curOf_pos {d : Disk} {n : Int} (h : curOf d = some n) : 1 ≤ n := by
  unfold curOf at h
  split at h
  · cases h
  · split at h
    · cases h
    · split at h
      · rename_i hm; cases h; exact (gensL_mem hm).1
      · cases h

/-! ### slices.DeleteFunc -/
section del
variable {α : Type} (p : α → Bool)

theorem lsub_of {xs : List α} {l h : Nat} (h1 : l ≤ h) (h2 : h ≤ xs.length) : lsub xs (l : Int) (h : Int) = some ((xs.drop l).take (h - l)) := by
  unfold lsub
  rw [if_pos (by omega)]
  rfl

theorem clrw_of {xs : List α} {l n : Nat} {a : α} (h : l + n ≤ xs.length) : clrw xs (l : Int) n a = some (xs.take l ++ List.replicate n a ++ xs.drop (l + n)) := by
  unfold clrw
  rw [if_pos (by omega)]
  simp [ovr]

/-- The first one that is meant; else the end. -/
theorem ixf_loop {R : Type} (a1 : List α) (out : Int → R) {b : Int → Option (Lp Int (Fl R Unit))} (hl : a1.length < 9223372036854775807)
    (hstep : ∀ (i : Nat) (hi : i < a1.length), b (i : Int) = some (if p a1[i] then .done (.ret (out i)) else .go ((i + 1 : Nat) : Int))) (hend : b (a1.length : Int) = some (.done (.nxt ()))) :
    ∃ t, loop b 0 = some t ∧ ((t = .nxt () ∧ ∀ x ∈ a1, p x = false) ∨ ∃ i : Nat, ∃ hi : i < a1.length, t = .ret (out i) ∧ p a1[i] = true ∧ ∀ x ∈ a1.take i, p x = false) := by
  refine loop_up (b := b) (fun i s => s = (i : Int) ∧ ∀ x ∈ a1.take i, p x = false) a1.length _ (by
    rintro i s hi ⟨rfl, hn⟩
    have e := hstep i hi
    cases hp : p a1[i]
    · rw [hp] at e
      refine .inl ⟨_, e, rfl, fun x hx => ?_⟩
      rw [List.take_succ_eq_append_getElem hi] at hx
      rcases List.mem_append.1 hx with hx | hx
      · exact hn x hx
      · simp at hx; rw [hx]; exact hp
    · rw [hp] at e
      exact .inr ⟨_, e, .inr ⟨i, hi, rfl, hp, hn⟩⟩) (by
    rintro s ⟨rfl, hn⟩
    rw [List.take_length] at hn
    exact ⟨_, hend, .inl ⟨rfl, hn⟩⟩) a1.length 0 0 (by omega) ⟨rfl, by simp⟩

theorem set_take {xs : List α} {i : Nat} {x : α} (h : i < xs.length) : (xs.set i x).take (i + 1) = xs.take i ++ [x] := by
  rw [List.take_succ_eq_append_getElem (by simpa using h), List.take_set_of_le (Nat.le_refl _)]
  simp

theorem set_drop {xs : List α} {i j : Nat} {x : α} (h : i < j) : (xs.set i x).drop j = xs.drop j := by
  rw [List.drop_set_of_lt h]

/-- What stays is moved to the front. -/
theorem del_loop (a : List α) {b : (List α × Int × Int) → Option (Lp (List α × Int × Int) (List α × Int))} (hl : a.length < 9223372036854775807)
    (hstep : ∀ (xs : List α) (i j : Nat) (hj : j < xs.length), i ≤ j → xs.length = a.length → b (xs, (i : Int), (j : Int)) = some (.go (if p xs[j] then (xs, (i : Int), ((j + 1 : Nat) : Int)) else (xs.set i xs[j], ((i + 1 : Nat) : Int), ((j + 1 : Nat) : Int)))))
    (hend : ∀ (xs : List α) (i : Nat), xs.length = a.length → b (xs, (i : Int), (xs.length : Int)) = some (.done (xs, (i : Int)))) (i0 j0 : Nat) (hij : i0 ≤ j0) (hj0 : j0 ≤ a.length) (h0 : a.take i0 = (a.take j0).filter (fun x => !p x)) :
    ∃ ys : List α, loop b (a, (i0 : Int), (j0 : Int)) = some (ys, ((a.filter (fun x => !p x)).length : Int)) ∧ ys.length = a.length ∧ ys.take (a.filter (fun x => !p x)).length = a.filter (fun x => !p x) := by
  obtain ⟨t, e, h⟩ := loop_up (b := b) (fun j s => s.1.length = a.length ∧ s.1.drop j = a.drop j ∧ s.2.2 = (j : Int) ∧ ∃ i : Nat, s.2.1 = (i : Int) ∧ i ≤ j ∧ s.1.take i = (a.take j).filter (fun x => !p x)) a.length
    (fun t => t.1.length = a.length ∧ ∃ i : Nat, t.2 = (i : Int) ∧ i ≤ a.length ∧ t.1.take i = a.filter (fun x => !p x)) (by
    rintro j ⟨xs, i', j'⟩ hj ⟨hxl, hxd, hjj, i, hi, hle, ht⟩
    simp only at hxl hxd hjj hi ht
    subst hjj hi
    have hjx : j < xs.length := by omega
    have hx : xs[j] = a[j] := by
      have := congrArg (fun l => l[0]?) hxd
      simp only [List.getElem?_drop, Nat.add_zero] at this
      rw [List.getElem?_eq_getElem hjx, List.getElem?_eq_getElem hj] at this
      exact Option.some.inj this
    have e := hstep xs i j hjx hle hxl
    have htk : (a.take (j + 1)).filter (fun x => !p x) = (a.take j).filter (fun x => !p x) ++ (if p a[j] then [] else [a[j]]) := by
      rw [List.take_succ_eq_append_getElem hj, List.filter_append]
      cases h : p a[j] <;> simp [h]
    have hd1 : a.drop (j + 1) = xs.drop (j + 1) := by
      have := congrArg (List.drop 1) hxd
      simpa [List.drop_drop] using this.symm
    rw [hx] at e
    cases hp : p a[j]
    · rw [hp] at e htk
      refine .inl ⟨_, e, by simpa using hxl, ?_, rfl, i + 1, rfl, by omega, ?_⟩
      · show (xs.set i a[j]).drop (j + 1) = a.drop (j + 1)
        rw [set_drop (by omega), hd1]
      · show (xs.set i a[j]).take (i + 1) = _
        rw [set_take (by omega), htk, ht]
        rfl
    · rw [hp] at e htk
      refine .inl ⟨_, e, hxl, ?_, rfl, i, rfl, by omega, ?_⟩
      · exact hd1.symm
      · show xs.take i = _
        rw [htk, ht]
        simp) (by
    rintro ⟨xs, i', j'⟩ ⟨hxl, hxd, hjj, i, hi, hle, ht⟩
    simp only at hxl hxd hjj hi ht
    subst hjj hi
    have e := hend xs i hxl
    rw [hxl] at e
    refine ⟨_, e, hxl, i, rfl, hle, ?_⟩
    rw [List.take_length] at ht
    exact ht) (a.length - j0) j0 (a, (i0 : Int), (j0 : Int)) (by omega) ⟨rfl, rfl, rfl, i0, rfl, hij, h0⟩
  obtain ⟨ys, i'⟩ := t
  obtain ⟨h1, i, h2, h3, h4⟩ := h
  simp only at h1 h2 h4
  subst h2
  have hlen : i = (a.filter (fun x => !p x)).length := by rw [← h4]; simp; omega
  subst hlen
  exact ⟨ys, e, h1, h4⟩

theorem fin_del {a ys : List α} (zero : α) (h1 : ys.length = a.length) (h2 : ys.take (a.filter (fun x => !p x)).length = a.filter (fun x => !p x)) :
    (lsub ys ((a.filter (fun x => !p x)).length : Int) (ys.length : Int)).bind (fun r => (clrw ys ((a.filter (fun x => !p x)).length : Int) r.length zero).bind fun z => (lsub z 0 ((a.filter (fun x => !p x)).length : Int)).bind fun q => some q) = some (a.filter (fun x => !p x)) := by
  have hle : (a.filter (fun x => !p x)).length ≤ ys.length := by rw [h1]; exact List.length_filter_le _ _
  rw [lsub_of hle (Nat.le_refl _)]
  simp only [Option.bind_some]
  rw [clrw_of (by simp; omega)]
  simp only [Option.bind_some]
  have : lsub (List.take (List.filter (fun x => !p x) a).length ys ++ List.replicate (List.take (ys.length - (List.filter (fun x => !p x) a).length) (List.drop (List.filter (fun x => !p x) a).length ys)).length zero ++
          List.drop ((List.filter (fun x => !p x) a).length + (List.take (ys.length - (List.filter (fun x => !p x) a).length) (List.drop (List.filter (fun x => !p x) a).length ys)).length) ys) ((0 : Nat) : Int) ((a.filter (fun x => !p x)).length : Int) = some (a.filter (fun x => !p x)) := by
    rw [lsub_of (by omega) (by simp; omega)]
    rw [h2]
    simp
  exact (congrArg (fun o => Option.bind o fun q => some q) this)
end del
/-! ### Walks that stop at the first one -/
def scanL {α R : Type} (g : Nat → α → Option R) : Nat → List α → Option R
  | _, [] => none
  | i, x :: xs => match g i x with
    | some r => some r
    | none => scanL g (i + 1) xs

def frs {R : Type} : Option R → Fl R Unit
  | some r => .ret r
  | none => .nxt ()

theorem loop_scanI {α R : Type} (xs : List α) (g : Nat → α → Option R) {b : Int → Option (Lp Int (Fl R Unit))}
    (hstep : ∀ (i : Nat) (hi : i < xs.length), b (i : Int) = some (match g i xs[i] with | some r => .done (.ret r) | none => .go ((i + 1 : Nat) : Int))) (hend : b (xs.length : Int) = some (.done (.nxt ()))) :
    ∀ (k i : Nat), i + k = xs.length → loop b (i : Int) = some (frs (scanL g i (xs.drop i)))
  | 0, i, h => by
    have e : i = xs.length := by omega
    subst e
    rw [loop_eq, hend, List.drop_length]
    rfl
  | k + 1, i, h => by
    have hi : i < xs.length := by omega
    have ih := loop_scanI xs g hstep hend k (i + 1) (by omega)
    rw [loop_eq, hstep i hi, List.drop_eq_getElem_cons hi]
    simp only [scanL]
    cases g i xs[i] with
    | some r => rfl
    | none => exact ih

theorem loop_scan {α R : Type} (xs : List α) (g : Nat → α → Option R) {b : Int → Option (Lp Int (Fl R Unit))}
    (hstep : ∀ (i : Nat) (hi : i < xs.length), b (i : Int) = some (match g i xs[i] with | some r => .done (.ret r) | none => .go ((i + 1 : Nat) : Int))) (hend : b (xs.length : Int) = some (.done (.nxt ()))) :
    loop b 0 = some (frs (scanL g 0 xs)) := by
  have := loop_scanI xs g hstep hend xs.length 0 (by omega)
  simpa using this

theorem frs_go {R T : Type} (o : Option R) (f : R → Option T) (h : Unit → Option T) : (some (frs o)).bind (Fl.go f h) = match o with | some r => f r | none => h () := by
  cases o <;> rfl

theorem scan_congr {α R : Type} {g g' : Nat → α → Option R} : ∀ (xs : List α) (i : Nat), (∀ j x, x ∈ xs → g j x = g' j x) → scanL g i xs = scanL g' i xs
  | [], _, _ => rfl
  | x :: xs, i, h => by
    simp only [scanL]
    rw [h i x (by simp), scan_congr xs (i + 1) (fun j y hy => h j y (by simp [hy]))]

/-- The place of the first one. -/
theorem scan_place {α : Type} (p : α → Bool) : ∀ (xs : List α) (i : Nat), ((scanL (fun j x => if p x then some (j : Int) else none) i xs).getD (-1) ≥ 0) ↔ xs.any p = true
  | [], i => by simp [scanL]
  | x :: xs, i => by
    simp only [scanL]
    cases h : p x
    · simp only [Bool.false_eq_true, if_false, List.any_cons, h, Bool.false_or]
      exact scan_place p xs (i + 1)
    · simp [h]

theorem scan_bool {α : Type} (p : α → Bool) : ∀ (xs : List α) (i : Nat), (scanL (fun _ x => if p x then some true else none) i xs).getD false = xs.any p
  | [], i => rfl
  | x :: xs, i => by
    simp only [scanL]
    cases h : p x
    · simp only [Bool.false_eq_true, if_false, List.any_cons, h, Bool.false_or]
      exact scan_bool p xs (i + 1)
    · simp [h]

def foldI {α A : Type} (f : Nat → A → α → A) : Nat → List α → A → A
  | _, [], a => a
  | i, x :: xs, a => foldI f (i + 1) xs (f i a x)

theorem loop_foldI {α A : Type} (xs : List α) (f : Nat → A → α → A) (I : Nat → A → Prop) {b : (A × Int) → Option (Lp (A × Int) A)}
    (hstep : ∀ (i : Nat) (a : A) (hi : i < xs.length), I i a → b (a, (i : Int)) = some (.go (f i a xs[i], ((i + 1 : Nat) : Int))) ∧ I (i + 1) (f i a xs[i])) (hend : ∀ a, b (a, (xs.length : Int)) = some (.done a)) :
    ∀ (k i : Nat) (a : A), i + k = xs.length → I i a → loop b (a, (i : Int)) = some (foldI f i (xs.drop i) a) ∧ I xs.length (foldI f i (xs.drop i) a)
  | 0, i, a, h, hI => by
    have e : i = xs.length := by omega
    subst e
    rw [loop_eq, hend, List.drop_length]
    exact ⟨rfl, hI⟩
  | k + 1, i, a, h, hI => by
    have hi : i < xs.length := by omega
    obtain ⟨h1, h2⟩ := hstep i a hi hI
    have ih := loop_foldI xs f I hstep hend k (i + 1) _ (by omega) h2
    rw [loop_eq, h1, List.drop_eq_getElem_cons hi]
    exact ih

theorem place_ge {o : Option Int} {b : Bool} (h : (o.getD (-1) ≥ 0) ↔ b = true) : decide (o.getD (-1) ≥ 0) = b := by
  rw [Bool.eq_iff_iff, decide_eq_true_eq]; exact h
/-! ### Sorted lists without doubles -/
theorem sorted_ext : ∀ {l1 l2 : List Int}, l1.Pairwise (· < ·) → l2.Pairwise (· < ·) → (∀ x, x ∈ l1 ↔ x ∈ l2) → l1 = l2
  | [], [], _, _, _ => rfl
  | [], y :: l2, _, _, h => by have := (h y).2 (by simp); simp at this
  | x :: l1, [], _, _, h => by have := (h x).1 (by simp); simp at this
  | x :: l1, y :: l2, h1, h2, h => by
    rw [List.pairwise_cons] at h1 h2
    have hxy : x = y := by
      have hx := (h x).1 (by simp)
      have hy := (h y).2 (by simp)
      rcases List.mem_cons.1 hx with e | hx
      · exact e
      · rcases List.mem_cons.1 hy with e | hy
        · exact e.symm
        · have := h1.1 y hy
          have := h2.1 x hx
          omega
    subst hxy
    congr 1
    refine sorted_ext h1.2 h2.2 fun z => ?_
    constructor
    · intro hz
      rcases List.mem_cons.1 ((h z).1 (List.mem_cons_of_mem _ hz)) with e | hz'
      · have := h1.1 z hz; omega
      · exact hz'
    · intro hz
      rcases List.mem_cons.1 ((h z).2 (List.mem_cons_of_mem _ hz)) with e | hz'
      · have := h2.1 z hz; omega
      · exact hz'

theorem pairwise_getElem {l : List Int} (h : l.Pairwise (· < ·)) {i j : Nat} (hi : i < l.length) (hj : j < l.length) (hij : i < j) : l[i] < l[j] := List.pairwise_iff_getElem.1 h i j hi hj hij

/-- A number is put into its place. -/
theorem put_spec (l : List Int) (v : Int) (hs : l.Pairwise (· < ·)) (hv : v ∉ l) (hl : l.length ≤ 1048576) :
    ∃ r, spec_l3Put l v = some r ∧ r.Pairwise (· < ·) ∧ (∀ x, x ∈ r ↔ x ∈ l ∨ x = v) ∧ r.length = l.length + 1 := by
  obtain ⟨⟨acc, inn⟩, e, h1, h2, h3, h4⟩ := loop_up (b := spec_l3Put_l1b l v)
    (fun i s => s.2.2 = (i : Int) ∧ s.1.Pairwise (· < ·) ∧ (∀ x, x ∈ s.1 ↔ x ∈ l.take i ∨ (s.2.1 = true ∧ x = v)) ∧ s.1.length = i + (if s.2.1 then 1 else 0) ∧ (s.2.1 = false → ∀ x ∈ l.take i, x < v) ∧ (s.2.1 = true → ∀ x ∈ l.drop i, v < x)) l.length
    (fun t => t.1.Pairwise (· < ·) ∧ (∀ x, x ∈ t.1 ↔ x ∈ l ∨ (t.2 = true ∧ x = v)) ∧ t.1.length = l.length + (if t.2 then 1 else 0) ∧ (t.2 = false → ∀ x ∈ l, x < v)) (by
    rintro i ⟨acc, inn, j⟩ hi ⟨hj, hp, hm, hlen, hf, ht⟩
    simp only at hj hp hm hlen hf ht
    subst hj
    have hlt : ∀ x ∈ l.take i, x < l[i] := by
      intro x hx
      obtain ⟨k, hk, rfl⟩ := List.mem_iff_getElem.1 hx
      rw [List.getElem_take]
      have : k < i := by simp at hk; omega
      exact pairwise_getElem hs (by omega) hi this
    have htk : l.take (i + 1) = l.take i ++ [l[i]] := List.take_succ_eq_append_getElem hi
    have hdr : l.drop i = l[i] :: l.drop (i + 1) := List.drop_eq_getElem_cons hi
    have hne : l[i] ≠ v := fun e => hv (e ▸ List.getElem_mem hi)
    have hal : acc.length ≤ 1048577 := by rw [hlen]; split <;> omega
    unfold spec_l3Put_l1b
    rw [if_pos (by simp; omega), idx_nat hi]
    simp only [Option.bind_some]
    rw [w64_nat (by omega)]
    refine .inl ?_
    cases inn
    · by_cases hgt : l[i] > v
      · rw [if_pos (by simpa using hgt)]
        simp only [Bool.not_false, Option.bind_some, if_true]
        rw [app_of (by simp; omega) (by simp; omega)]
        simp only [Option.bind_some]
        rw [app_of (by simp; omega) (by simp; omega)]
        refine ⟨_, rfl, rfl, ?_, ?_, ?_, by simp, ?_⟩
        · simp only
          have hav : ∀ x ∈ acc, x < v := fun x hx => hf rfl x (by have := (hm x).1 hx; simpa using this)
          rw [List.pairwise_append, List.pairwise_append]
          refine ⟨⟨hp, by simp, fun x hx y hy => by simp at hy; rw [hy]; exact hav x hx⟩, by simp, fun x hx y hy => ?_⟩
          simp at hy
          rw [hy]
          rcases List.mem_append.1 hx with hx | hx
          · have := hav x hx; omega
          · simp at hx; omega
        · intro x
          have := hm x
          simp only [List.mem_append, List.mem_singleton, htk]
          simp at this
          rw [this]
          simp
          constructor <;> (intro h; rcases h with (h | h) | h <;> simp [h])
        · simp; simp at hlen; omega
        · intro _ x hx
          have : l[i] < x := by
            obtain ⟨k, hk, rfl⟩ := List.mem_iff_getElem.1 hx
            rw [List.getElem_drop]
            simp at hk
            exact pairwise_getElem hs hi (by omega) (by omega)
          omega
      · rw [if_neg (by simpa using hgt)]
        simp only [Option.bind_some, Bool.false_eq_true, if_false]
        rw [app_of (by simp; omega) (by simp; omega)]
        refine ⟨_, rfl, rfl, ?_, ?_, ?_, ?_, by simp⟩
        · simp only
          rw [List.pairwise_append]
          refine ⟨hp, by simp, fun x hx y hy => ?_⟩
          simp at hy
          rw [hy]
          have := (hm x).1 hx
          exact hlt x (by simpa using this)
        · intro x
          have := hm x
          simp only [List.mem_append, List.mem_singleton, htk]
          simp at this
          rw [this]
          simp
        · simp; simp at hlen; omega
        · intro _ x hx
          rw [htk] at hx
          rcases List.mem_append.1 hx with hx | hx
          · exact hf rfl x hx
          · simp at hx; omega
    · have hlv : v < l[i] := ht rfl _ (by rw [hdr]; exact List.mem_cons_self)
      rw [if_pos (by simpa using hlv)]
      simp only [Bool.not_true, Option.bind_some, Bool.false_eq_true, if_false]
      rw [app_of (by simp; omega) (by simp; omega)]
      refine ⟨_, rfl, rfl, ?_, ?_, ?_, by simp, ?_⟩
      · simp only
        rw [List.pairwise_append]
        refine ⟨hp, by simp, fun x hx y hy => ?_⟩
        simp at hy
        rw [hy]
        rcases (hm x).1 hx with hx | ⟨_, hx⟩
        · exact hlt x hx
        · omega
      · intro x
        have := hm x
        simp only [List.mem_append, List.mem_singleton, htk]
        rw [this]
        simp
        constructor <;> (intro h; rcases h with (h | h) | h <;> simp [h])
      · simp; simp at hlen; omega
      · intro _ x hx
        exact ht rfl x (by rw [hdr]; exact List.mem_cons_of_mem _ hx)) (by
    rintro ⟨acc, inn, j⟩ ⟨hj, hp, hm, hlen, hf, ht⟩
    simp only at hj hp hm hlen hf ht
    subst hj
    unfold spec_l3Put_l1b
    rw [if_neg (by simp)]
    rw [List.take_length] at hm hf
    exact ⟨_, rfl, hp, hm, hlen, hf⟩) l.length 0 (([] : List Int), false, 0) (by omega) ⟨rfl, by simp, by simp, by simp, by simp, by simp⟩
  simp only at h1 h2 h3 h4
  unfold spec_l3Put spec_l3Put_l1
  rw [e]
  simp only [Option.bind_some]
  cases inn
  · simp only [Bool.not_false, if_true]
    simp at h3
    rw [app_of (by simp; omega) (by simp; omega)]
    refine ⟨_, rfl, ?_, ?_, by simp; omega⟩
    · rw [List.pairwise_append]
      refine ⟨h1, by simp, fun x hx y hy => ?_⟩
      simp at hy
      rw [hy]
      have := (h2 x).1 hx
      exact h4 rfl x (by simpa using this)
    · intro x
      have := h2 x
      simp at this
      simp [this]
  · refine ⟨_, rfl, h1, ?_, by simpa using h3⟩
    intro x
    have := h2 x
    simpa using this

/-- Sorted, doubles allowed: one pass leaves each once. -/
theorem compact_inner (a : List Int) (k0 : Nat) (h0 : 1 ≤ k0) (hk : k0 < a.length) (hs : a.Pairwise (· ≤ ·)) (hl : a.length ≤ 1048577) (hd : a[k0]'hk = a[k0 - 1]'(by omega)) (hp0 : (a.take k0).Pairwise (· < ·)) (x48 : List Int) (hx : x48.length = a.length - k0) :
    ∃ xs k, slices_Compact_Lint64r_l1 (k0 : Int) x48 (a, (k0 : Int), 1) = some (xs, ((k : Nat) : Int)) ∧ xs.length = a.length ∧ k ≤ a.length ∧ (xs.take k).Pairwise (· < ·) ∧ ∀ x, x ∈ xs.take k ↔ x ∈ a := by
  have hle : ∀ (i j : Nat) (hi : i < a.length) (hj : j < a.length), i ≤ j → a[i] ≤ a[j] := by
    intro i j hi hj hij
    rcases Nat.lt_or_ge i j with h | h
    · exact List.pairwise_iff_getElem.1 hs i j hi hj h
    · have : i = j := by omega
      subst this; exact Int.le_refl _
  obtain ⟨⟨xs, k'⟩, e, h1, k, h2, h3, h4, h5⟩ := loop_up (b := slices_Compact_Lint64r_l1b (k0 : Int) x48)
    (fun i s => s.2.2 = ((i + 1 : Nat) : Int) ∧ s.1.length = a.length ∧ (∀ j, i + k0 ≤ j → s.1[j]? = a[j]?) ∧ ∃ k : Nat, s.2.1 = (k : Int) ∧ 1 ≤ k ∧ k ≤ i + k0 ∧ (s.1.take k).Pairwise (· < ·) ∧ (∀ x, x ∈ s.1.take k ↔ x ∈ a.take (i + k0 + 1)) ∧ (∀ x ∈ s.1.take k, x ≤ a.getD (i + k0) 0)) (a.length - k0 - 1)
    (fun t => t.1.length = a.length ∧ ∃ k : Nat, t.2 = (k : Int) ∧ k ≤ a.length ∧ (t.1.take k).Pairwise (· < ·) ∧ ∀ x, x ∈ t.1.take k ↔ x ∈ a) (by
    rintro i ⟨xs, kk, jj⟩ hi ⟨hj, hlen, hsame, k, hkk, hk1, hkle, hpw, hmem, hmax⟩
    simp only at hj hlen hsame hkk hpw hmem hmax
    subst hj hkk
    have hi1 : i + k0 + 1 < a.length := by omega
    have g1 : xs[i + k0 + 1]'(by omega) = a[i + k0 + 1] := by
      have := hsame (i + k0 + 1) (by omega)
      rw [List.getElem?_eq_getElem (by omega), List.getElem?_eq_getElem hi1] at this
      exact Option.some.inj this
    have g0 : xs[i + k0]'(by omega) = a[i + k0] := by
      have := hsame (i + k0) (by omega)
      rw [List.getElem?_eq_getElem (by omega), List.getElem?_eq_getElem (by omega)] at this
      exact Option.some.inj this
    have hgd : a.getD (i + k0) 0 = a[i + k0] := by simp [List.getD, show i + k0 < a.length by omega]
    rw [hgd] at hmax
    have r1 : idxo xs (k0 : Int) x48.length ((i + 1 : Nat) : Int) = some a[i + k0 + 1] := by
      unfold idxo
      rw [if_pos (by omega), show (k0 : Int) + ((i + 1 : Nat) : Int) = ((i + k0 + 1 : Nat) : Int) by omega, idx_nat (by omega), g1]
    have r0 : idxo xs (k0 : Int) x48.length (i : Int) = some a[i + k0] := by
      unfold idxo
      rw [if_pos (by omega), show (k0 : Int) + (i : Int) = ((i + k0 : Nat) : Int) by omega, idx_nat (by omega), g0]
    refine .inl ?_
    unfold slices_Compact_Lint64r_l1b
    rw [if_pos (by simp; omega)]
    simp only
    rw [r1, w64_of (x := ((i + 1 : Nat) : Int) - 1) (by omega) (by omega), show ((i + 1 : Nat) : Int) - 1 = (i : Int) by omega, r0, idx_nat (show k < xs.length by omega), w64_nat (show k < _ by omega), w64_nat (show i + 1 < _ by omega)]
    simp only [Option.bind_some]
    have htk : a.take (i + k0 + 1 + 1) = a.take (i + k0 + 1) ++ [a[i + k0 + 1]] := List.take_succ_eq_append_getElem hi1
    have hmono := hle (i + k0) (i + k0 + 1) (by omega) hi1 (by omega)
    have hgd1 : a.getD (i + 1 + k0) 0 = a[i + k0 + 1] := by
      rw [show i + 1 + k0 = i + k0 + 1 by omega]
      simp [List.getD, hi1]
    by_cases hne : a[i + k0 + 1] = a[i + k0]
    · rw [if_neg (by simp [hne])]
      refine ⟨_, rfl, rfl, hlen, fun j hj => hsame j (by omega), k, rfl, hk1, by omega, hpw, ?_, ?_⟩
      · intro x
        rw [show i + 1 + k0 + 1 = i + k0 + 1 + 1 by omega, htk, hmem, List.mem_append, List.mem_singleton]
        constructor
        · exact fun h => .inl h
        · rintro (h | h)
          · exact h
          · rw [h, hne]
            refine List.mem_iff_getElem.2 ⟨i + k0, by simp; omega, by simp⟩
      · intro x hx
        rw [hgd1]
        exact Int.le_trans (hmax x hx) hmono
    · rw [if_pos (by simpa using hne)]
      refine ⟨_, rfl, rfl, by simpa using hlen, ?_, k + 1, rfl, by omega, by omega, ?_, ?_, ?_⟩
      · intro j hj
        show (xs.set (k : Int).toNat a[i + k0 + 1])[j]? = a[j]?
        rw [Int.toNat_natCast, List.getElem?_set_ne (by omega)]
        exact hsame j (by omega)
      · show ((xs.set (k : Int).toNat a[i + k0 + 1]).take (k + 1)).Pairwise (· < ·)
        rw [Int.toNat_natCast, set_take (by omega), List.pairwise_append]
        refine ⟨hpw, by simp, fun x hx y hy => ?_⟩
        simp at hy
        rw [hy]
        have := hmax x hx
        omega
      · intro x
        show x ∈ (xs.set (k : Int).toNat a[i + k0 + 1]).take (k + 1) ↔ _
        rw [Int.toNat_natCast, set_take (by omega), show i + 1 + k0 + 1 = i + k0 + 1 + 1 by omega, htk, List.mem_append, List.mem_append, hmem]
      · intro x hx
        have hx' : x ∈ (xs.set (k : Int).toNat a[i + k0 + 1]).take (k + 1) := hx
        rw [Int.toNat_natCast, set_take (by omega)] at hx'
        rw [hgd1]
        rcases List.mem_append.1 hx' with h | h
        · exact Int.le_trans (hmax x h) hmono
        · simp at h; omega) (by
    rintro ⟨xs, kk, jj⟩ ⟨hj, hlen, hsame, k, hkk, hk1, hkle, hpw, hmem, hmax⟩
    simp only at hj hlen hsame hkk hpw hmem hmax
    subst hj hkk
    unfold slices_Compact_Lint64r_l1b
    rw [if_neg (by simp; omega)]
    refine ⟨_, rfl, hlen, k, rfl, by omega, hpw, fun x => ?_⟩
    rw [hmem, List.take_of_length_le (by omega)]) (a.length - k0 - 1) 0 (a, (k0 : Int), 1) (by omega) ⟨rfl, rfl, fun _ _ => rfl, k0, rfl, h0, by omega, hp0, by
      intro x
      rw [Nat.zero_add, List.take_succ_eq_append_getElem hk, List.mem_append, List.mem_singleton]
      constructor
      · exact fun h => .inl h
      · rintro (h | h)
        · exact h
        · rw [h, hd]
          exact List.mem_iff_getElem.2 ⟨k0 - 1, by simp; omega, by simp⟩, by
      intro x hx
      rw [Nat.zero_add]
      obtain ⟨j, hj, rfl⟩ := List.mem_iff_getElem.1 hx
      rw [List.getElem_take]
      have hgd : a.getD k0 0 = a[k0] := by simp [List.getD, hk]
      rw [hgd]
      simp at hj
      exact hle j k0 (by omega) hk (by omega)⟩
  simp only at h1 h2
  subst h2
  exact ⟨xs, k, by unfold slices_Compact_Lint64r_l1; exact e, h1, h3, h4, h5⟩

theorem compact_eq (a : List Int) (hs : a.Pairwise (· ≤ ·)) (hl : a.length ≤ 1048577) : ∃ r, slices_Compact_Lint64r a = some r ∧ r.Pairwise (· < ·) ∧ (∀ x, x ∈ r ↔ x ∈ a) ∧ r.length ≤ a.length := by
  have step1 : ∀ i (hi : i < a.length) (h1 : 1 ≤ i), (a.take i).Pairwise (· < ·) → a[i] ≠ a[i - 1]'(by omega) → (a.take (i + 1)).Pairwise (· < ·) := by
    intro i hi h1 hp hne
    rw [List.take_succ_eq_append_getElem hi, List.pairwise_append]
    refine ⟨hp, by simp, fun x hx y hy => ?_⟩
    simp at hy
    rw [hy]
    obtain ⟨j, hj, rfl⟩ := List.mem_iff_getElem.1 hx
    rw [List.getElem_take]
    simp at hj
    have q1 : a[i - 1]'(by omega) ≤ a[i] := List.pairwise_iff_getElem.1 hs (i - 1) i (by omega) hi (by omega)
    have q2 : a[j]'(by omega) ≤ a[i - 1]'(by omega) := by
      rcases Nat.lt_or_ge j (i - 1) with h | h
      · exact List.pairwise_iff_getElem.1 hs j (i - 1) (by omega) (by omega) h
      · have : j = i - 1 := by omega
        subst this; exact Int.le_refl _
    omega
  have hb : ∀ i (hi : i < a.length) (h1 : 1 ≤ i), (a.take i).Pairwise (· < ·) → (a[i] = a[i - 1]'(by omega) ∧ ∃ r, slices_Compact_Lint64r_l2b a (i : Int) = some (.done (.ret r)) ∧ r.Pairwise (· < ·) ∧ (∀ x, x ∈ r ↔ x ∈ a) ∧ r.length ≤ a.length) ∨ (a[i] ≠ a[i - 1]'(by omega) ∧ slices_Compact_Lint64r_l2b a (i : Int) = some (.go ((i + 1 : Nat) : Int))) := by
    intro i hi h1 hp
    unfold slices_Compact_Lint64r_l2b
    rw [if_pos (by simp; omega), idx_nat hi, w64_of (x := (i : Int) - 1) (by omega) (by omega), show (i : Int) - 1 = ((i - 1 : Nat) : Int) by omega, idx_nat (show i - 1 < a.length by omega), w64_nat (by omega)]
    simp only [Option.bind_some]
    by_cases he : a[i] = a[i - 1]'(by omega)
    · left
      refine ⟨he, ?_⟩
      rw [if_pos (by simpa using he), lsub_of (Nat.le_of_lt hi) (Nat.le_refl _)]
      simp only [Option.bind_some]
      obtain ⟨xs, k, e, g1, g2, g3, g4⟩ := compact_inner a i h1 hi hs hl he hp ((a.drop i).take (a.length - i)) (by simp)
      rw [e]
      simp only [Option.bind_some]
      have hk : k ≤ xs.length := by omega
      rw [lsub_of hk (Nat.le_refl _)]
      simp only [Option.bind_some]
      rw [clrw_of (by simp; omega)]
      simp only [Option.bind_some]
      refine ⟨xs.take k, ?_, g3, g4, by simp; omega⟩
      have : ∀ ys : List Int, lsub (xs.take k ++ ys) 0 (k : Int) = some (xs.take k) := by
        intro ys
        have hh := lsub_of (xs := xs.take k ++ ys) (l := 0) (h := k) (by omega) (by simp; omega)
        rw [show ((0 : Nat) : Int) = 0 from rfl] at hh
        rw [hh]
        simp [Nat.min_eq_left hk]
      rw [List.append_assoc, this]
      rfl
    · right
      rw [if_neg (by simpa using he)]
      exact ⟨he, rfl⟩
  unfold slices_Compact_Lint64r
  by_cases h2 : a.length < 2
  · rw [if_pos (by simp; omega)]
    refine ⟨a, rfl, ?_, fun x => Iff.rfl, Nat.le_refl _⟩
    match a, h2 with
    | [], _ => simp
    | [x], _ => simp
  · rw [if_neg (by simp; omega)]
    obtain ⟨t, e, h⟩ := loop_up (b := slices_Compact_Lint64r_l2b a) (fun i s => s = ((i + 1 : Nat) : Int) ∧ (a.take (i + 1)).Pairwise (· < ·)) (a.length - 1)
      (fun t => (∃ r, t = .ret r ∧ r.Pairwise (· < ·) ∧ (∀ x, x ∈ r ↔ x ∈ a) ∧ r.length ≤ a.length) ∨ (t = .nxt () ∧ a.Pairwise (· < ·))) (by
      rintro i s hi ⟨rfl, hp⟩
      rcases hb (i + 1) (by omega) (by omega) hp with ⟨_, r, e, q⟩ | ⟨hne, e⟩
      · exact .inr ⟨_, e, .inl ⟨r, rfl, q⟩⟩
      · exact .inl ⟨_, e, rfl, step1 (i + 1) (by omega) (by omega) hp hne⟩) (by
      rintro s ⟨rfl, hp⟩
      rw [show a.length - 1 + 1 = a.length by omega] at hp ⊢
      refine ⟨.nxt (), ?_, .inr ⟨rfl, by rw [List.take_length] at hp; exact hp⟩⟩
      unfold slices_Compact_Lint64r_l2b
      rw [if_neg (by simp)]) (a.length - 1) 0 1 (by omega) ⟨rfl, by
        match a, h2 with
        | x :: l, _ => simp⟩
    unfold slices_Compact_Lint64r_l2
    rw [e]
    rcases h with ⟨r, rfl, q⟩ | ⟨rfl, q⟩
    · exact ⟨r, rfl, q⟩
    · exact ⟨a, rfl, q, fun x => Iff.rfl, Nat.le_refl _⟩
theorem kept_loop (d : Disk) (a2 gs : List Int) (h2 : a2.length ≤ 40) (hg : gs.length ≤ 1048576) :
    ∃ t, spec_l10Kept_l1 d a2 gs (([] : List Int), 0) = some t ∧ ((t = .ret (([] : List Int), 4) ∧ ∃ x ∈ a2, x ∉ gs) ∨ ∃ l, t = .nxt l ∧ (∀ x ∈ a2, x ∈ gs) ∧ l.Pairwise (· < ·) ∧ (∀ x, x ∈ l ↔ x ∈ a2) ∧ l.length ≤ a2.length) := by
  unfold spec_l10Kept_l1
  refine loop_up (b := spec_l10Kept_l1b d a2 gs) (fun i s => s.2 = (i : Int) ∧ (∀ x ∈ a2.take i, x ∈ gs) ∧ s.1.Pairwise (· < ·) ∧ (∀ x, x ∈ s.1 ↔ x ∈ a2.take i) ∧ s.1.length ≤ i) a2.length _ (by
    rintro i ⟨l, j⟩ hi ⟨hj, ha, hp, hm, hl⟩
    simp only at hj hp hm hl
    subst hj
    unfold spec_l10Kept_l1b
    rw [if_pos (by simp; omega), idx_nat hi]
    simp only [Option.bind_some]
    rw [l1Has_eq _ _ hg, l1Has_eq _ _ (show l.length ≤ 1048576 by omega), w64_nat (by omega)]
    simp only [Option.bind_some]
    have htk : a2.take (i + 1) = a2.take i ++ [a2[i]] := List.take_succ_eq_append_getElem hi
    by_cases hc : a2[i] ∈ gs
    · rw [if_neg (by simpa using hc)]
      have ha' : ∀ x ∈ a2.take (i + 1), x ∈ gs := by
        intro x hx
        rw [htk] at hx
        rcases List.mem_append.1 hx with hx | hx
        · exact ha x hx
        · simp at hx; rw [hx]; exact hc
      by_cases hin : a2[i] ∈ l
      · rw [if_neg (by simpa using hin)]
        refine .inl ⟨_, rfl, rfl, ha', hp, fun x => ?_, by simp only; omega⟩
        rw [htk, List.mem_append, List.mem_singleton, ← hm]
        exact ⟨.inl, fun h => h.elim id (fun e => e ▸ hin)⟩
      · rw [if_pos (by simpa using hin)]
        obtain ⟨r, e, r1, r2, r3⟩ := put_spec l a2[i] hp hin (by omega)
        rw [e]
        refine .inl ⟨_, rfl, rfl, ha', r1, fun x => ?_, by simp only; omega⟩
        rw [htk, List.mem_append, List.mem_singleton, ← hm]
        exact r2 x
    · rw [if_pos (by simpa using hc)]
      exact .inr ⟨_, rfl, .inl ⟨rfl, _, List.getElem_mem hi, hc⟩⟩) (by
    rintro ⟨l, j⟩ ⟨hj, ha, hp, hm, hl⟩
    simp only at hj hp hm hl
    subst hj
    unfold spec_l10Kept_l1b
    rw [if_neg (by simp)]
    rw [List.take_length] at ha hm
    exact ⟨_, rfl, .inr ⟨l, rfl, ha, hp, hm, hl⟩⟩) a2.length 0 (([] : List Int), 0) (by omega) ⟨rfl, by simp, by simp, by simp, by simp⟩

theorem notAll_impl (a2 gs : List Int) (h2 : a2.length ≤ 1048576) (hg : gs.length ≤ 1048576) : slices_ContainsFunc_Lint64_impl_Disk_kept_1o a2 gs = some (a2.any fun x => !(decide (x ∈ gs))) := by
  have key := loop_scan a2 (fun i x => if !(decide (x ∈ gs)) then some (i : Int) else none) (b := slices_IndexFunc_Lint64_impl_Disk_kept_1o_l1b a2 gs) (by
    intro i hi
    unfold slices_IndexFunc_Lint64_impl_Disk_kept_1o_l1b impl_Disk_kept_1o
    rw [if_pos (by simp; omega), idx_nat hi]
    simp only [Option.bind_some]
    rw [Index_eq _ _ hg, w64_nat (by omega)]
    cases decide (a2[i] ∈ gs) <;> rfl) (by
    unfold slices_IndexFunc_Lint64_impl_Disk_kept_1o_l1b
    rw [if_neg (by simp)])
  unfold slices_ContainsFunc_Lint64_impl_Disk_kept_1o slices_IndexFunc_Lint64_impl_Disk_kept_1o slices_IndexFunc_Lint64_impl_Disk_kept_1o_l1
  rw [key, frs_go, ← place_ge (scan_place (fun x => !(decide (x ∈ gs))) a2 0)]
  cases scanL (fun i x => if !(decide (x ∈ gs)) then some (i : Int) else none) 0 a2 <;> rfl

theorem kept_both (d : Disk) (a2 : List Int) (hg : d.good) (hb : ∀ f ∈ d.Files, ∀ c ∈ f.Data, 0 ≤ c ∧ c ≤ 255) :
    ∃ r, spec_l10Kept d a2 = some r ∧ impl_Disk_kept d a2 = some r ∧ r.1.length ≤ 41 := by
  have hl : d.Files.length ≤ 1048576 := by have := hg.len; omega
  have hgl := gensL_length d.Files
  have hgs : (gensL d.Files).length ≤ 1048576 := by omega
  unfold spec_l10Kept impl_Disk_kept
  rw [l8Gens_eq d hl, gens_eq d hl]
  simp only [Option.bind_some]
  by_cases h40 : (a2.length : Int) > 40
  · rw [if_pos (by simpa using h40), if_pos (by simpa using h40)]
    exact ⟨_, rfl, rfl, by simp⟩
  rw [if_neg (by simpa using h40), if_neg (by simpa using h40)]
  obtain ⟨e1, e2⟩ := current_both d hg hb
  obtain ⟨t, et, ht⟩ := kept_loop d a2 (gensL d.Files) (by omega) hgs
  rw [et, notAll_impl _ _ (by omega) hgs]
  simp only [Option.bind_some]
  rcases ht with ⟨rfl, x, hx, hxn⟩ | ⟨l, rfl, hall, hp, hm, hll⟩
  · have : (a2.any fun x => !(decide (x ∈ gensL d.Files))) = true := List.any_eq_true.2 ⟨x, hx, by simpa using hxn⟩
    rw [if_pos this]
    exact ⟨_, rfl, rfl, by simp⟩
  · have : (a2.any fun x => !(decide (x ∈ gensL d.Files))) = false := by
      rw [List.any_eq_false]
      intro x hx
      simpa using hall x hx
    rw [if_neg (by rw [this]; simp)]
    simp only [Fl.go]
    rw [e1, e2]
    cases hcur : curOf d with
    | none => exact ⟨_, rfl, rfl, by simp⟩
    | some n =>
      have hpos := curOf_pos hcur
      have hn : n ≠ 0 := by omega
      simp only [Option.bind_some, Option.getD_some]
      rw [if_neg (by simpa using hn), if_neg (by simp)]
      rw [l1Has_eq _ _ (show l.length ≤ 1048576 by omega)]
      simp only [Option.bind_some]
      have hs : ∃ r, (if (!(decide (n ∈ l))) = true then (spec_l3Put l n).bind fun x46 => some x46 else some l) = some r ∧ r.Pairwise (· < ·) ∧ (∀ x, x ∈ r ↔ x ∈ a2 ∨ x = n) ∧ r.length ≤ 41 := by
        by_cases hin : n ∈ l
        · rw [if_neg (by simpa using hin)]
          refine ⟨l, rfl, hp, fun x => ?_, by omega⟩
          rw [hm]
          exact ⟨.inl, fun h => h.elim id (fun e => e ▸ (hm n).1 hin)⟩
        · rw [if_pos (by simpa using hin)]
          obtain ⟨r, e, r1, r2, r3⟩ := put_spec l n hp hin (by omega)
          rw [e]
          exact ⟨r, rfl, r1, fun x => by rw [r2, hm], by omega⟩
      obtain ⟨r, er, r1, r2, r3⟩ := hs
      rw [er]
      simp only [Option.bind_some]
      unfold slices_Clone_Lint64
      rw [app_of (by simp; omega) (by simp; omega)]
      simp only [Option.bind_some, List.nil_append]
      rw [app_of (by simp; omega) (by simp; omega)]
      simp only [Option.bind_some]
      have hsort : slices_Sort_Lint64r (a2 ++ [n]) = some ((a2 ++ [n]).mergeSort fun x y => decide (x ≤ y)) := by
        unfold slices_Sort_Lint64r
        rw [if_pos (by simp; omega)]
      rw [hsort]
      simp only [Option.bind_some]
      rw [same_of (List.length_mergeSort _)]
      simp only [Option.bind_some]
      have hpw : ((a2 ++ [n]).mergeSort fun x y => decide (x ≤ y)).Pairwise (· ≤ ·) := by
        have := List.pairwise_mergeSort (le := fun x y : Int => decide (x ≤ y)) (by intro a b c h1 h2; simp at h1 h2 ⊢; omega) (by intro a b; simp; omega) (a2 ++ [n])
        exact this.imp (by intro a b h; simpa using h)
      obtain ⟨q, eq, q1, q2, q3⟩ := compact_eq _ hpw (by rw [List.length_mergeSort]; simp; omega)
      rw [eq]
      have hqr : q = r := sorted_ext q1 r1 (fun x => by rw [q2, r2, List.mem_mergeSort, List.mem_append, List.mem_singleton])
      subst hqr
      exact ⟨_, rfl, rfl, r3⟩

theorem KeptGens_both (a1 : Disk) (a2 : List Int) (k0 : Disk.ok a1) (_ : a2.length ≤ maxLen ∧ ∀ y1 ∈ a2, IntKind.i64.min ≤ y1 ∧ y1 ≤ IntKind.i64.max) (h1 : Disk.sm 1048576 a1) (h2 : a2.length ≤ 1048576 ∧ ∀ y0 ∈ a2, True) : ∃ r, spec_KeptGens a1 a2 = some r ∧ impl_KeptGens a1 a2 = some r ∧ GensResult.sm 1049600 r := by
  have hl : a1.Files.length ≤ 1048576 := h1.1.1
  obtain ⟨c, hc, hg⟩ := DiskFault_spec a1 hl
  unfold spec_KeptGens impl_KeptGens
  rw [DiskFault_same, hc]
  simp only [Option.bind_some]
  by_cases c0 : c = 0
  · subst c0
    have hb : ∀ f ∈ a1.Files, ∀ c ∈ f.Data, 0 ≤ c ∧ c ≤ 255 := fun f hf c hcm => (k0.1.2 f hf).2.2 c hcm
    obtain ⟨r, e1, e2, e3⟩ := kept_both a1 a2 (hg rfl) hb
    rw [e1, e2]
    exact ⟨_, rfl, rfl, trivial, by show r.1.length ≤ 1049600; omega, fun _ _ => trivial⟩
  · have e : (c != 0) = true := by simpa using c0
    rw [e]
    exact ⟨_, rfl, rfl, trivial, by simp, fun _ _ => trivial⟩
theorem FnExactKeptGens_law (a1 : Disk) (a2 : (List Int)) (k0 : Disk.ok a1) (k1 : a2.length ≤ maxLen ∧ ∀ y1 ∈ a2, IntKind.i64.min ≤ y1 ∧ y1 ≤ IntKind.i64.max) : laws_FnExactKeptGens a1 a2 = some true := FnExactKeptGens_true a1 a2 k0 k1 (KeptGens_both a1 a2 k0 k1)
end Go.Told

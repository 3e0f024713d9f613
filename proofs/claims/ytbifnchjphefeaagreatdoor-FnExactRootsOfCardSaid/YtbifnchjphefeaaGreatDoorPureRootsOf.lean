import Derived.Test.YtbifnchjphefeaaGreatDoorToldRootsOf
set_option linter.unusedVariables false
set_option maxRecDepth 4000
namespace Go.Told
open Go Go.Im

/-! ### Loops and lists in general -/
theorem loop_congr {S T : Type} {b b' : S → Option (Lp S T)} (h : ∀ s, b s = b' s) : loop b = loop b' := by
  have : b = b' := funext h
  rw [this]

theorem w64_of {x : Int} (h1 : -9223372036854775808 ≤ x) (h2 : x ≤ 9223372036854775807) : w64 x = x := by
  unfold w64
  rw [IntKind.wrap_i64]
  omega

theorem w64_nat {i : Nat} (h : i < 9223372036854775807) : w64 ((i : Int) + 1) = ((i + 1 : Nat) : Int) := by
  rw [w64_of (by omega) (by omega)]; omega

/-- Going through a list from the front. -/
theorem loop_up {T : Type} {S : Type} {b : S → Option (Lp S T)} (I : Nat → S → Prop) (n : Nat) (Q : T → Prop) (hstep : ∀ i s, i < n → I i s → (∃ s', b s = some (.go s') ∧ I (i + 1) s') ∨ ∃ t, b s = some (.done t) ∧ Q t)
    (hend : ∀ s, I n s → ∃ t, b s = some (.done t) ∧ Q t) : ∀ (k i : Nat) (s : S), i + k = n → I i s → ∃ t, loop b s = some t ∧ Q t
  | 0, i, s, hk, hI => by
    obtain ⟨t, h1, h2⟩ := hend s (by rw [show n = i by omega]; exact hI)
    exact ⟨t, by rw [loop_eq, h1]; rfl, h2⟩
  | k + 1, i, s, hk, hI => by
    rcases hstep i s (by omega) hI with ⟨s', h1, h2⟩ | ⟨t, h1, h2⟩
    · obtain ⟨t, h3, h4⟩ := loop_up I n Q hstep hend k (i + 1) s' (by omega) h2
      exact ⟨t, by rw [loop_eq, h1]; exact h3, h4⟩
    · exact ⟨t, by rw [loop_eq, h1]; rfl, h2⟩

theorem idx_nat {α : Type} {xs : List α} {i : Nat} (h : i < xs.length) : idx xs (i : Int) = some xs[i] := by
  unfold idx
  rw [if_pos (by omega)]
  simp [h]

theorem idx_append {α : Type} (l r : List α) (x : α) : idx (l ++ x :: r) (l.length : Int) = some x := by
  rw [idx_nat (by simp)]
  simp

/-- What a walk over a list comes to. -/
def goL {α A T : Type} (g : Nat → A → α → Lp A T) (fin : A → T) : Nat → List α → A → T
  | _, [], a => fin a
  | i, x :: xs, a => match g i a x with
    | .go a' => goL g fin (i + 1) xs a'
    | .done t => t

theorem loop_goL {α A S T : Type} (xs : List α) (g : Nat → A → α → Lp A T) (fin : A → T) (e : Nat → A → S) (I : Nat → A → Prop) {b : S → Option (Lp S T)}
    (hstep : ∀ (i : Nat) (a : A) (hi : i < xs.length), I i a → b (e i a) = some (match g i a xs[i] with | .go a' => .go (e (i + 1) a') | .done t => .done t) ∧ ∀ a', g i a xs[i] = .go a' → I (i + 1) a')
    (hend : ∀ a, I xs.length a → b (e xs.length a) = some (.done (fin a))) : ∀ (k i : Nat) (a : A), i + k = xs.length → I i a → loop b (e i a) = some (goL g fin i (xs.drop i) a)
  | 0, i, a, hk, hI => by
    have : i = xs.length := by omega
    subst this
    rw [loop_eq, hend a hI, List.drop_length]; rfl
  | k + 1, i, a, hk, hI => by
    have hi : i < xs.length := by omega
    obtain ⟨h1, h2⟩ := hstep i a hi hI
    rw [loop_eq, h1, List.drop_eq_getElem_cons hi]
    simp only [goL]
    cases hg : g i a xs[i] with
    | go a' =>
      simp only [Option.bind_some, Lp.elim]
      exact loop_goL xs g fin e I hstep hend k (i + 1) a' (by omega) (h2 a' hg)
    | done t => rfl

theorem loop_list {α A S T : Type} (xs : List α) (g : Nat → A → α → Lp A T) (fin : A → T) (e : Nat → A → S) (I : Nat → A → Prop) {b : S → Option (Lp S T)} (a0 : A)
    (hstep : ∀ (i : Nat) (a : A) (hi : i < xs.length), I i a → b (e i a) = some (match g i a xs[i] with | .go a' => .go (e (i + 1) a') | .done t => .done t) ∧ ∀ a', g i a xs[i] = .go a' → I (i + 1) a')
    (hend : ∀ a, I xs.length a → b (e xs.length a) = some (.done (fin a))) (h0 : I 0 a0) : loop b (e 0 a0) = some (goL g fin 0 xs a0) := by
  have := loop_goL xs g fin e I hstep hend xs.length 0 a0 (by omega) h0
  simpa using this

/-- A list that is copied element by element. -/
theorem to_loop {α : Type} (xs : List α) {b : (List α × Int) → Option (Lp (List α × Int) (List α))} (hstep : ∀ (ys : List α) (i : Nat) (hi : i < xs.length), ys.length = xs.length → b (ys, (i : Int)) = some (.go (ys.set i xs[i], ((i + 1 : Nat) : Int))))
    (hend : ∀ ys : List α, ys.length = xs.length → b (ys, (xs.length : Int)) = some (.done ys)) (y0 : List α) (h0 : y0.length = xs.length) : loop b (y0, 0) = some xs := by
  obtain ⟨t, h1, h2⟩ := loop_up (b := b) (fun i s => s.2 = (i : Int) ∧ s.1.length = xs.length ∧ s.1.take i = xs.take i) xs.length (fun t => t = xs) (by
    rintro i ⟨ys, j⟩ hi ⟨hj, hl, hp⟩
    simp only at hj hl hp
    subst hj
    refine .inl ⟨_, hstep ys i hi hl, rfl, by simpa using hl, ?_⟩
    simp only
    rw [List.take_succ_eq_append_getElem (by simp; omega), List.take_succ_eq_append_getElem hi, ← hp, List.take_set_of_le (Nat.le_refl _)]
    simp) (by
    rintro ⟨ys, j⟩ ⟨hj, hl, hp⟩
    simp only at hj hl hp
    subst hj
    refine ⟨ys, hend ys hl, ?_⟩
    rw [List.take_of_length_le (by omega), List.take_of_length_le (by omega)] at hp
    exact hp) xs.length 0 (y0, 0) (by omega) ⟨rfl, h0, by simp⟩
  rw [h1, h2]

/-- Two lists held against each other that are one. -/
theorem eq_loop {R : Type} (n : Nat) {b : Int → Option (Lp Int (Fl R Unit))} (hstep : ∀ i : Nat, i < n → b (i : Int) = some (.go ((i + 1 : Nat) : Int))) (hend : b (n : Int) = some (.done (.nxt ()))) : loop b 0 = some (.nxt ()) := by
  obtain ⟨t, h1, h2⟩ := loop_up (b := b) (fun i s => s = (i : Int)) n (fun t => t = .nxt ()) (by
    rintro i s hi rfl
    exact .inl ⟨_, hstep i hi, rfl⟩) (by
    rintro s rfl
    exact ⟨_, hend, rfl⟩) n 0 0 (by omega) rfl
  rw [h1, h2]

/-- What is left of a size. -/
theorem sz_loop {α : Type} (xs : List α) (P : α → Prop) (l : Int) {b : (Int × Int) → Option (Lp (Int × Int) (Fl Int Int))}
    (hstep : ∀ (q : Int) (i : Nat) (hi : i < xs.length), 0 ≤ q → q ≤ l → (∃ q', b (q, (i : Int)) = some (.go (q', ((i + 1 : Nat) : Int))) ∧ 0 ≤ q' ∧ q' ≤ q ∧ P xs[i]) ∨ ∃ t, b (q, (i : Int)) = some (.done (.ret t)) ∧ t < 0)
    (hend : ∀ q : Int, b (q, (xs.length : Int)) = some (.done (.nxt q))) (h0 : 0 ≤ l) :
    ∃ t, loop b (l, 0) = some t ∧ match t with | .ret r => r < 0 | .nxt r => 0 ≤ r ∧ r ≤ l ∧ ∀ x ∈ xs, P x := by
  refine loop_up (b := b) (fun i s => s.2 = (i : Int) ∧ 0 ≤ s.1 ∧ s.1 ≤ l ∧ ∀ j, (hj : j < xs.length) → j < i → P xs[j]) xs.length _ (by
    rintro i ⟨q, j⟩ hi ⟨hj, h1, h2, h3⟩
    simp only at hj h1 h2 h3
    subst hj
    rcases hstep q i hi h1 h2 with ⟨q', e, g1, g2, g3⟩ | ⟨t, e, ht⟩
    · refine .inl ⟨_, e, rfl, g1, by simp only; omega, fun j hj hji => ?_⟩
      rcases Nat.lt_or_ge j i with h | h
      · exact h3 j hj h
      · have : j = i := by omega
        subst this; exact g3
    · exact .inr ⟨_, e, ht⟩) (by
    rintro ⟨q, j⟩ ⟨hj, h1, h2, h3⟩
    simp only at hj h1 h2 h3
    subst hj
    refine ⟨_, hend q, h1, h2, fun x hx => ?_⟩
    obtain ⟨j, hj, rfl⟩ := List.getElem_of_mem hx
    exact h3 j hj hj) xs.length 0 (l, 0) (by omega) ⟨rfl, h0, Int.le_refl _, fun j _ h => by omega⟩

/-! ### Marks -/
def pm {α : Type} (m : α → Int → α) (c : α → Int) : List α → Int → List α
  | [], _ => []
  | x :: xs, k => m x k :: pm m c xs (k + c x)

def cs {α : Type} (c : α → Int) : List α → Int
  | [] => 0
  | x :: xs => c x + cs c xs

theorem pm_length {α : Type} (m : α → Int → α) (c : α → Int) : ∀ (xs : List α) (k : Int), (pm m c xs k).length = xs.length
  | [], _ => rfl
  | x :: xs, k => by simp [pm, pm_length m c xs]

theorem cs_nonneg {α : Type} {c : α → Int} (hc : ∀ a, 0 ≤ c a) : ∀ (xs : List α), 0 ≤ cs c xs
  | [] => Int.le_refl _
  | x :: xs => by have := hc x; have := cs_nonneg hc xs; simp only [cs]; omega

theorem cs_le {α : Type} {c : α → Int} {C : Int} {N : Nat} (hC : 0 ≤ C) : ∀ (xs : List α), (∀ a ∈ xs, c a ≤ C) → xs.length ≤ N → cs c xs ≤ N * C
  | [], _, _ => Int.mul_nonneg (by omega) hC
  | x :: xs, h, hl => by
    have h1 := h x (by simp)
    simp only [List.length_cons] at hl
    have h2 := cs_le (N := N - 1) hC xs (fun a ha => h a (by simp [ha])) (by omega)
    simp only [cs]
    have : ((N - 1 : Nat) : Int) * C + C = N * C := by
      have e : ((N - 1 : Nat) : Int) = (N : Int) - 1 := by omega
      rw [e, Int.sub_mul, Int.one_mul]; omega
    omega

theorem mark_loop {α : Type} (m : α → Int → α) (c : α → Int) (P : α → Prop) (hc : ∀ a, 0 ≤ c a) {b : (List α × Int × Int) → Option (Lp (List α × Int × Int) (List α × Int))}
    (hstep : ∀ (l r : List α) (x : α) (k : Int), P x → 0 ≤ k → k + c x ≤ 9223372036854775807 → l.length < 9223372036854775807 → b (l ++ x :: r, k, (l.length : Int)) = some (.go (l ++ m x k :: r, k + c x, ((l.length + 1 : Nat) : Int))))
    (hend : ∀ (l : List α) (k : Int), b (l, k, (l.length : Int)) = some (.done (l, k))) : ∀ (xs l : List α) (k : Int), (∀ x ∈ xs, P x) → 0 ≤ k → k + cs c xs ≤ 9223372036854775807 → l.length + xs.length < 9223372036854775807 →
    loop b (l ++ xs, k, (l.length : Int)) = some (l ++ pm m c xs k, k + cs c xs)
  | [], l, k, _, _, _, _ => by
    rw [loop_eq, List.append_nil, hend]
    simp [pm, cs, Lp.elim]
  | x :: xs, l, k, hP, h0, h1, h2 => by
    have hx := hc x
    have hxs := cs_nonneg hc xs
    simp only [cs] at h1
    simp only [List.length_cons] at h2
    rw [loop_eq, hstep l xs x k (hP x (by simp)) h0 (by omega) (by omega)]
    simp only [Option.bind_some, Lp.elim]
    have := mark_loop m c P hc hstep hend xs (l ++ [m x k]) (k + c x) (fun y hy => hP y (by simp [hy])) (by omega) (by omega) (by simp; omega)
    simp only [List.length_append, List.length_cons, List.length_nil, List.append_assoc, List.cons_append, List.nil_append] at this
    rw [this]
    simp only [pm, cs]
    congr 2
    omega

theorem held_loop {α : Type} (m : α → Int → α) (c : α → Int) (P : α → Prop) (hc : ∀ a, 0 ≤ c a) {b : List α → (Int × Int) → Option (Lp (Int × Int) (Fl Int Int))}
    (hstep : ∀ (l r : List α) (x : α) (k : Int), P x → 0 ≤ k → k + c x ≤ 9223372036854775807 → l.length < 9223372036854775807 → b (l ++ m x k :: r) (k, (l.length : Int)) = some (.go (k + c x, ((l.length + 1 : Nat) : Int))))
    (hend : ∀ (l : List α) (k : Int), b l (k, (l.length : Int)) = some (.done (.nxt k))) : ∀ (xs l : List α) (k : Int), (∀ x ∈ xs, P x) → 0 ≤ k → k + cs c xs ≤ 9223372036854775807 → l.length + xs.length < 9223372036854775807 →
    loop (b (l ++ pm m c xs k)) (k, (l.length : Int)) = some (.nxt (k + cs c xs))
  | [], l, k, _, _, _, _ => by
    rw [loop_eq, pm, List.append_nil, hend]
    simp [cs, Lp.elim]
  | x :: xs, l, k, hP, h0, h1, h2 => by
    have hx := hc x
    have hxs := cs_nonneg hc xs
    simp only [cs] at h1
    simp only [List.length_cons] at h2
    rw [pm, loop_eq, hstep l _ x k (hP x (by simp)) h0 (by omega) (by omega)]
    simp only [Option.bind_some, Lp.elim]
    have := held_loop m c P hc hstep hend xs (l ++ [m x k]) (k + c x) (fun y hy => hP y (by simp [hy])) (by omega) (by omega) (by simp; omega)
    simp only [List.length_append, List.length_cons, List.length_nil, List.append_assoc, List.cons_append, List.nil_append] at this
    rw [this]
    simp only [cs]
    congr 2
    omega

theorem same_of {α β : Type} {xs : List α} {ys : List β} (h : xs.length = ys.length) : same xs ys = some () := if_pos h

theorem set_app {α : Type} (l r : List α) (x y : α) : (l ++ x :: r).set l.length y = l ++ y :: r := by
  rw [List.set_append_right _ _ (Nat.le_refl _)]
  simp

theorem seq_self (a : ByteArray) : seq a a = true := by
  unfold seq
  simp

/-- One mark. -/
def c1 {α : Type} (_ : α) : Int := 1

theorem c1_nonneg {α : Type} (a : α) : 0 ≤ c1 a := by unfold c1; decide

theorem app_of {α : Type} {B : Nat} {xs ys : List α} (h : (xs.length + ys.length) * B ≤ 140737488355328) (h2 : xs.length + ys.length ≤ 4611686018427387904) : app B xs ys = some (xs ++ ys) := if_pos ⟨h, h2⟩

theorem loop_meas {S T : Type} {b : S → Option (Lp S T)} (I : S → Prop) (μ : S → Nat) (Q : T → Prop) (step : ∀ s, I s → (∃ s', b s = some (.go s') ∧ I s' ∧ μ s' < μ s) ∨ ∃ t, b s = some (.done t) ∧ Q t) : ∀ (n : Nat) (s : S), μ s ≤ n → I s → ∃ t, loop b s = some t ∧ Q t
  | 0, s, hn, hI => by
    rcases step s hI with ⟨s', _, _, h3⟩ | ⟨t, h1, h2⟩
    · omega
    · exact ⟨t, by rw [loop_eq, h1]; rfl, h2⟩
  | n + 1, s, hn, hI => by
    rcases step s hI with ⟨s', h1, h2, h3⟩ | ⟨t, h1, h2⟩
    · obtain ⟨t, h4, h5⟩ := loop_meas I μ Q step n s' (by omega) h2
      exact ⟨t, by rw [loop_eq, h1]; exact h4, h5⟩
    · exact ⟨t, by rw [loop_eq, h1]; rfl, h2⟩

def File.ok (x : File) : Prop := (x.Path.size ≤ maxLen) ∧ (x.Data.length ≤ maxLen ∧ ∀ y1 ∈ x.Data, IntKind.u8.min ≤ y1 ∧ y1 ≤ IntKind.u8.max)

def Disk.ok (x : Disk) : Prop := (x.Files.length ≤ maxLen ∧ ∀ y1 ∈ x.Files, File.ok y1) ∧ (IntKind.i64.min ≤ x.Budget ∧ x.Budget ≤ IntKind.i64.max) ∧ (IntKind.i64.min ≤ x.Writes ∧ x.Writes ≤ IntKind.i64.max) ∧ (IntKind.i64.min ≤ x.Stop ∧ x.Stop ≤ IntKind.i64.max) ∧ (True)

theorem szByteS_ok (x : (List Int)) (hx : x.length ≤ maxLen ∧ ∀ y1 ∈ x, IntKind.u8.min ≤ y1 ∧ y1 ≤ IntKind.u8.max) (l : Int) (h0 : 0 ≤ l) (h1 : l ≤ 1048576) : ∃ r, laws_szByteS x l = some r ∧ (r < 0 ∨ (0 ≤ r ∧ r ≤ l ∧ (x.length ≤ 1048576 ∧ ∀ y0 ∈ x, True))) := by
  obtain ⟨hm, hx⟩ := hx
  unfold maxLen at hm
  unfold laws_szByteS
  rw [w64_of (x := l - x.length) (by omega) (by omega)]
  by_cases c1 : l - (x.length : Int) < 0
  · rw [if_pos (by simpa using c1)]
    exact ⟨_, rfl, .inl (by omega)⟩
  · rw [if_neg (by simpa using c1)]
    exact ⟨_, rfl, .inr ⟨by omega, by omega, by omega, fun _ _ => trivial⟩⟩

def File.sm (B : Nat) (x : File) : Prop := (x.Path.size ≤ B) ∧ (x.Data.length ≤ B ∧ ∀ y0 ∈ x.Data, True)

def Disk.sm (B : Nat) (x : Disk) : Prop := (x.Files.length ≤ B ∧ ∀ y0 ∈ x.Files, File.sm B y0) ∧ (True) ∧ (True) ∧ (True) ∧ (True)

theorem szFile_ok (x : File) (hx : File.ok x) (l : Int) (h0 : 0 ≤ l) (h1 : l ≤ 1048576) : ∃ r, laws_szFile x l = some r ∧ (r < 0 ∨ (0 ≤ r ∧ r ≤ l ∧ (File.sm 1048576 x))) := by
  obtain ⟨k0, k1⟩ := hx
  unfold maxLen at *
  unfold laws_szFile
  rw [w64_of (x := l - x.Path.size) (by omega) (by omega)]
  by_cases c0 : l - (x.Path.size : Int) < 0
  · rw [if_pos (by simpa using c0)]
    exact ⟨_, rfl, .inl (by omega)⟩
  rw [if_neg (by simpa using c0)]
  obtain ⟨r1, e1, g1⟩ := szByteS_ok x.Data k1 (l - x.Path.size) (by omega) (by omega)
  rw [e1]
  simp only [Option.bind_some]
  by_cases c1 : r1 < 0
  · rw [if_pos (by simpa using c1)]
    exact ⟨_, rfl, .inl (by omega)⟩
  rw [if_neg (by simpa using c1)]
  obtain ⟨p1, q1, z1⟩ := g1.resolve_left c1
  exact ⟨_, rfl, .inr ⟨by omega, by omega, by omega, z1⟩⟩

theorem szFileS_ok (x : (List File)) (hx : x.length ≤ maxLen ∧ ∀ y1 ∈ x, File.ok y1) (l : Int) (h0 : 0 ≤ l) (h1 : l ≤ 1048576) : ∃ r, laws_szFileS x l = some r ∧ (r < 0 ∨ (0 ≤ r ∧ r ≤ l ∧ (x.length ≤ 1048576 ∧ ∀ y0 ∈ x, File.sm 1048576 y0))) := by
  obtain ⟨hm, hx⟩ := hx
  unfold maxLen at hm
  unfold laws_szFileS
  rw [w64_of (x := l - x.length) (by omega) (by omega)]
  by_cases c1 : l - (x.length : Int) < 0
  · rw [if_pos (by simpa using c1)]
    exact ⟨_, rfl, .inl (by omega)⟩
  · rw [if_neg (by simpa using c1)]
    have key := sz_loop x (fun y0 => File.sm 1048576 y0) (l - x.length) (b := laws_szFileS_l1b x) ?_ ?_ (by omega)
    · obtain ⟨t, h2, h3⟩ := key
      unfold laws_szFileS_l1
      rw [h2]
      cases t with
      | ret r => exact ⟨r, rfl, .inl h3⟩
      | nxt r => exact ⟨r, rfl, .inr ⟨h3.1, by have := h3.2.1; omega, by omega, h3.2.2⟩⟩
    · intro q i hi hq0 hq1
      unfold laws_szFileS_l1b
      rw [if_pos (by simp; omega)]
      simp only [idx_nat hi, Option.bind_some]
      have hi2 : w64 ((i : Int) + 1) = ((i + 1 : Nat) : Int) := w64_nat (by omega)
      obtain ⟨r, e, hr⟩ := szFile_ok x[i] (hx _ (List.getElem_mem hi)) q hq0 (by omega)
      rw [e]
      simp only [Option.bind_some]
      by_cases c : r < 0
      · rw [if_pos (by simpa using c)]
        exact .inr ⟨_, rfl, by omega⟩
      · rw [if_neg (by simpa using c), hi2]
        obtain ⟨g1, g2, g3⟩ := hr.resolve_left c
        exact .inl ⟨_, rfl, g1, g2, g3⟩
    · intro q
      unfold laws_szFileS_l1b
      rw [if_neg (by simp)]

theorem szDisk_ok (x : Disk) (hx : Disk.ok x) (l : Int) (h0 : 0 ≤ l) (h1 : l ≤ 1048576) : ∃ r, laws_szDisk x l = some r ∧ (r < 0 ∨ (0 ≤ r ∧ r ≤ l ∧ (Disk.sm 1048576 x))) := by
  obtain ⟨k0, k1, k2, k3, k4⟩ := hx
  unfold maxLen at *
  unfold laws_szDisk
  obtain ⟨r0, e0, g0⟩ := szFileS_ok x.Files k0 l (by omega) (by omega)
  rw [e0]
  simp only [Option.bind_some]
  by_cases c0 : r0 < 0
  · rw [if_pos (by simpa using c0)]
    exact ⟨_, rfl, .inl (by omega)⟩
  rw [if_neg (by simpa using c0)]
  obtain ⟨p0, q0, z0⟩ := g0.resolve_left c0
  exact ⟨_, rfl, .inr ⟨by omega, by omega, z0, trivial, trivial, trivial, trivial⟩⟩

theorem toByteS_eq (x : (List Int)) (hx : x.length ≤ 1049600 ∧ ∀ y0 ∈ x, True) : laws_toByteS x = some x := by
  have hl := hx.1
  unfold laws_toByteS
  have hm : ∀ z : Int, mk 1 (x.length : Int) z = some (List.replicate x.length z) := fun z => by
    unfold mk; rw [if_pos ⟨by omega, by simp; omega, by omega⟩]; simp
  rw [hm]
  simp only [Option.bind_some, laws_toByteS_l1]
  rw [to_loop x ?_ ?_ _ (by simp)]
  · rfl
  · intro ys i hi hl2
    unfold laws_toByteS_l1b
    rw [if_pos (by simp; omega)]
    have hi2 : w64 ((i : Int) + 1) = ((i + 1 : Nat) : Int) := w64_nat (by omega)
    simp only [idx_nat hi, idx_nat (show i < ys.length by omega), Option.bind_some, Int.toNat_natCast, hi2]
  · intro ys _
    unfold laws_toByteS_l1b
    rw [if_neg (by simp)]

theorem toFile_eq (x : File) (hx : File.sm 1049600 x) : laws_toFile x = some x := by
  obtain ⟨h0, h1⟩ := hx
  unfold laws_toFile
  simp only [toByteS_eq x.Data h1, Option.bind_some]

theorem toFileS_eq (x : (List File)) (hx : x.length ≤ 1049600 ∧ ∀ y0 ∈ x, File.sm 1049600 y0) : laws_toFileS x = some x := by
  have hl := hx.1
  unfold laws_toFileS
  have hm : ∀ z : File, mk 40 (x.length : Int) z = some (List.replicate x.length z) := fun z => by
    unfold mk; rw [if_pos ⟨by omega, by simp; omega, by omega⟩]; simp
  rw [hm]
  simp only [Option.bind_some, laws_toFileS_l1]
  rw [to_loop x ?_ ?_ _ (by simp)]
  · rfl
  · intro ys i hi hl2
    unfold laws_toFileS_l1b
    rw [if_pos (by simp; omega)]
    have hi2 : w64 ((i : Int) + 1) = ((i + 1 : Nat) : Int) := w64_nat (by omega)
    simp only [idx_nat hi, idx_nat (show i < ys.length by omega), Option.bind_some, Int.toNat_natCast, hi2, toFile_eq x[i] (hx.2 _ (List.getElem_mem hi))]
  · intro ys _
    unfold laws_toFileS_l1b
    rw [if_neg (by simp)]

theorem toDisk_eq (x : Disk) (hx : Disk.sm 1049600 x) : laws_toDisk x = some x := by
  obtain ⟨h0, h1, h2, h3, h4⟩ := hx
  unfold laws_toDisk
  simp only [toFileS_eq x.Files h0, Option.bind_some]

def Version.sm (B : Nat) (x : Version) : Prop := (True) ∧ (True) ∧ (True)

def Term.sm (B : Nat) (x : Term) : Prop := (x.Name.size ≤ B) ∧ (Version.sm B x.Low) ∧ (Version.sm B x.High)

def AsksResult.sm (B : Nat) (x : AsksResult) : Prop := (True) ∧ (x.Asks.length ≤ B ∧ ∀ y0 ∈ x.Asks, Term.sm B y0)

theorem eqVersion_self (x : Version) (hx : Version.sm 1049600 x) : laws_eqVersion x x = some true := by
  obtain ⟨h0, h1, h2⟩ := hx
  unfold laws_eqVersion
  simp

theorem eqTerm_self (x : Term) (hx : Term.sm 1049600 x) : laws_eqTerm x x = some true := by
  obtain ⟨h0, h1, h2⟩ := hx
  unfold laws_eqTerm
  simp [eqVersion_self x.Low h1, eqVersion_self x.High h2]

theorem eqTermS_self (x : (List Term)) (hx : x.length ≤ 1049600 ∧ ∀ y0 ∈ x, Term.sm 1049600 y0) : laws_eqTermS x x = some true := by
  have hl := hx.1
  unfold laws_eqTermS
  rw [if_neg (by simp)]
  unfold laws_eqTermS_l1
  rw [eq_loop x.length ?_ ?_]
  · rfl
  · intro i hi
    unfold laws_eqTermS_l1b
    rw [if_pos (by simp; omega)]
    have hi2 : w64 ((i : Int) + 1) = ((i + 1 : Nat) : Int) := w64_nat (by omega)
    simp [idx_nat hi, hi2, eqTerm_self x[i] (hx.2 _ (List.getElem_mem hi))]
  · unfold laws_eqTermS_l1b
    rw [if_neg (by simp)]

theorem eqAsksResult_self (x : AsksResult) (hx : AsksResult.sm 1049600 x) : laws_eqAsksResult x x = some true := by
  obtain ⟨h0, h1⟩ := hx
  unfold laws_eqAsksResult
  simp [eqTermS_self x.Asks h1]

theorem eqByteS_self (x : (List Int)) (hx : x.length ≤ 1049600 ∧ ∀ y0 ∈ x, True) : laws_eqByteS x x = some true := by
  have hl := hx.1
  unfold laws_eqByteS
  rw [if_neg (by simp)]
  unfold laws_eqByteS_l1
  rw [eq_loop x.length ?_ ?_]
  · rfl
  · intro i hi
    unfold laws_eqByteS_l1b
    rw [if_pos (by simp; omega)]
    have hi2 : w64 ((i : Int) + 1) = ((i + 1 : Nat) : Int) := w64_nat (by omega)
    simp [idx_nat hi, hi2]
  · unfold laws_eqByteS_l1b
    rw [if_neg (by simp)]

theorem eqFile_self (x : File) (hx : File.sm 1049600 x) : laws_eqFile x x = some true := by
  obtain ⟨h0, h1⟩ := hx
  unfold laws_eqFile
  simp [eqByteS_self x.Data h1]

theorem eqFileS_self (x : (List File)) (hx : x.length ≤ 1049600 ∧ ∀ y0 ∈ x, File.sm 1049600 y0) : laws_eqFileS x x = some true := by
  have hl := hx.1
  unfold laws_eqFileS
  rw [if_neg (by simp)]
  unfold laws_eqFileS_l1
  rw [eq_loop x.length ?_ ?_]
  · rfl
  · intro i hi
    unfold laws_eqFileS_l1b
    rw [if_pos (by simp; omega)]
    have hi2 : w64 ((i : Int) + 1) = ((i + 1 : Nat) : Int) := w64_nat (by omega)
    simp [idx_nat hi, hi2, eqFile_self x[i] (hx.2 _ (List.getElem_mem hi))]
  · unfold laws_eqFileS_l1b
    rw [if_neg (by simp)]

theorem eqDisk_self (x : Disk) (hx : Disk.sm 1049600 x) : laws_eqDisk x x = some true := by
  obtain ⟨h0, h1, h2, h3, h4⟩ := hx
  unfold laws_eqDisk
  simp [eqFileS_self x.Files h0]

theorem b2s_size1 (a : Int) : (b2s [a]).size = 1 := rfl

theorem markText_some {k : Int} (h0 : 0 ≤ k) (h1 : k ≤ 9223372036854775807) : ∃ s, laws_markText k = some s := by
  have key : ∀ (n : Nat) (k : Int) (s : ByteArray), 0 ≤ k → k < 10 ^ n → k ≤ 9223372036854775807 → s.size + n ≤ 1000 → ∃ t, loop laws_markText_l1b (k, s) = some t ∧ t.size ≤ s.size + n := by
    intro n
    induction n with
    | zero =>
      intro k s h0 h1 _ _
      have : k = 0 := by simp at h1; omega
      subst this
      exact ⟨s, by rw [loop_eq]; rfl, by omega⟩
    | succ n ih =>
      intro k s h0 h1 h2 h3
      by_cases hk : k > 0
      · rw [loop_eq]
        unfold laws_markText_l1b
        simp only
        rw [if_pos (by simpa using hk)]
        have hc : ∀ a : Int, cat (b2s [a]) s = some (b2s [a] ++ s) := fun a => by
          unfold cat; rw [if_pos (by rw [b2s_size1]; omega)]
        rw [hc]
        simp only [Option.bind_some, Lp.elim]
        have hd : k.tdiv 10 = k / 10 := Int.tdiv_eq_ediv_of_nonneg h0
        rw [hd, w64_of (by omega) (by omega)]
        obtain ⟨t, g1, g2⟩ := ih (k / 10) (b2s [IntKind.u8.wrap (w64 (48 + k.tmod 10))] ++ s) (by omega) (by rw [Int.pow_succ] at h1; omega) (by omega) (by rw [ByteArray.size_append, b2s_size1]; omega)
        refine ⟨t, g1, ?_⟩
        rw [ByteArray.size_append, b2s_size1] at g2
        omega
      · have : k = 0 := by omega
        subst this
        exact ⟨s, by rw [loop_eq]; rfl, by omega⟩
  unfold laws_markText
  by_cases hk : k ≤ 0
  · rw [if_pos (by simpa using hk)]
    exact ⟨_, rfl⟩
  · rw [if_neg (by simpa using hk)]
    obtain ⟨t, g1, g2⟩ := key 19 k (bs []) h0 (by omega) h1 (by decide)
    unfold laws_markText_l1
    rw [g1]
    simp only [Option.bind_some]
    have e0 : (bs []).size = 0 := rfl
    have e1 : (bs [109]).size = 1 := rfl
    unfold cat
    rw [if_pos (by omega)]
    exact ⟨_, rfl⟩

noncomputable def mT (k : Int) : ByteArray := (laws_markText k).getD ByteArray.empty

theorem markText_eq {k : Int} (h0 : 0 ≤ k) (h1 : k ≤ 9223372036854775807) : laws_markText k = some (mT k) := by
  obtain ⟨s, hs⟩ := markText_some h0 h1
  unfold mT
  rw [hs]
  rfl

noncomputable def mTerm (x : Term) (k : Int) : Term := ({ Name := mT (k), Low := ({ A := (k + 1), B := (k + 1 + 1), C := (k + 1 + 1 + 1) } : Version), High := ({ A := (k + 1 + 1 + 1 + 1), B := (k + 1 + 1 + 1 + 1 + 1), C := (k + 1 + 1 + 1 + 1 + 1 + 1) } : Version) } : Term)

noncomputable def cTerm (x : Term) : Int := 1 + 1 + 1 + 1 + 1 + 1 + 1

theorem cTerm_nonneg (x : Term) : 0 ≤ cTerm x := by
  unfold cTerm
  omega

theorem markTermSr_eq (xs : List Term) (hx : xs.length ≤ 1049600 ∧ ∀ y0 ∈ xs, Term.sm 1049600 y0) (k : Int) (h0 : 0 ≤ k) (h1 : k + cs cTerm xs ≤ 9223372036854775807) : laws_markTermSr xs k = some (k + cs cTerm xs, pm mTerm cTerm xs k) := by
  unfold laws_markTermSr laws_markTermSr_l1
  have key := mark_loop mTerm cTerm (fun y0 => Term.sm 1049600 y0) cTerm_nonneg (b := laws_markTermSr_l1b) ?_ ?_ xs [] k hx.2 h0 h1 (by have := hx.1; simp; omega)
  · simp only [List.nil_append, List.length_nil, Int.natCast_zero] at key
    rw [key]
    rfl
  · intro l r x k hP h0 hk hl
    simp only [cTerm] at hk
    have t0 := markText_eq (k := k) (by omega) (by omega)
    have w0 := w64_of (x := k + 1) (by omega) (by omega)
    have w1 := w64_of (x := k + 1 + 1) (by omega) (by omega)
    have w2 := w64_of (x := k + 1 + 1 + 1) (by omega) (by omega)
    have w3 := w64_of (x := k + 1 + 1 + 1 + 1) (by omega) (by omega)
    have w4 := w64_of (x := k + 1 + 1 + 1 + 1 + 1) (by omega) (by omega)
    have w5 := w64_of (x := k + 1 + 1 + 1 + 1 + 1 + 1) (by omega) (by omega)
    have w6 := w64_of (x := k + 1 + 1 + 1 + 1 + 1 + 1 + 1) (by omega) (by omega)
    have hi2 : w64 ((l.length : Int) + 1) = ((l.length + 1 : Nat) : Int) := w64_nat (by omega)
    unfold laws_markTermSr_l1b
    rw [if_pos (by simp; omega)]
    simp only [idx_append, set_app, Option.bind_some, Int.toNat_natCast, hi2, t0, w0, w1, w2, w3, w4, w5, w6]
    rw [show k + 1 + 1 + 1 + 1 + 1 + 1 + 1 = k + cTerm x from by simp only [cTerm]; omega]
    rfl
  · intro l k
    unfold laws_markTermSr_l1b
    rw [if_neg (by simp)]

theorem heldTermS_eq (xs : List Term) (hx : xs.length ≤ 1049600 ∧ ∀ y0 ∈ xs, Term.sm 1049600 y0) (k : Int) (h0 : 0 ≤ k) (h1 : k + cs cTerm xs ≤ 9223372036854775807) : laws_heldTermS (pm mTerm cTerm xs k) k = some (k + cs cTerm xs) := by
  unfold laws_heldTermS laws_heldTermS_l1
  have key := held_loop mTerm cTerm (fun y0 => Term.sm 1049600 y0) cTerm_nonneg (b := laws_heldTermS_l1b) ?_ ?_ xs [] k hx.2 h0 h1 (by have := hx.1; simp; omega)
  · simp only [List.nil_append, List.length_nil, Int.natCast_zero] at key
    rw [key]
    rfl
  · intro l r x k hP h0 hk hl
    simp only [cTerm] at hk
    have t0 := markText_eq (k := k) (by omega) (by omega)
    have w0 := w64_of (x := k + 1) (by omega) (by omega)
    have w1 := w64_of (x := k + 1 + 1) (by omega) (by omega)
    have w2 := w64_of (x := k + 1 + 1 + 1) (by omega) (by omega)
    have w3 := w64_of (x := k + 1 + 1 + 1 + 1) (by omega) (by omega)
    have w4 := w64_of (x := k + 1 + 1 + 1 + 1 + 1) (by omega) (by omega)
    have w5 := w64_of (x := k + 1 + 1 + 1 + 1 + 1 + 1) (by omega) (by omega)
    have w6 := w64_of (x := k + 1 + 1 + 1 + 1 + 1 + 1 + 1) (by omega) (by omega)
    have hi2 : w64 ((l.length : Int) + 1) = ((l.length + 1 : Nat) : Int) := w64_nat (by omega)
    unfold laws_heldTermS_l1b
    rw [if_pos (by simp; omega)]
    simp [idx_append, hi2, mTerm, t0, w0, w1, w2, w3, w4, w5, w6]
    all_goals (first | rfl | omega | (simp only [cTerm]; omega))
  · intro l k
    unfold laws_heldTermS_l1b
    rw [if_neg (by simp)]

theorem markAsksResultg_eq (x : AsksResult) (hP : AsksResult.sm 1049600 x) (k : Int) (h0 : 0 ≤ k) (h1 : k + cs cTerm x.Asks ≤ 9223372036854775807) : laws_markAsksResultg x k = some (k + cs cTerm x.Asks, pm mTerm cTerm x.Asks (k)) := by
  have n0 := cs_nonneg cTerm_nonneg x.Asks
  have t0 := markTermSr_eq x.Asks (hP.2) (k) (by omega) (by omega)
  unfold laws_markAsksResultg
  simp only [t0, Option.bind_some, same_of (pm_length _ _ _ _)]

theorem heldAsksResult_eq (x : AsksResult) (hP : AsksResult.sm 1049600 x) (k : Int) (h0 : 0 ≤ k) (h1 : k + cs cTerm x.Asks ≤ 9223372036854775807) : laws_heldAsksResult ({ Code := x.Code, Asks := pm mTerm cTerm x.Asks (k) } : AsksResult) k = some (k + cs cTerm x.Asks) := by
  have n0 := cs_nonneg cTerm_nonneg x.Asks
  have t0 := heldTermS_eq x.Asks (hP.2) (k) (by omega) (by omega)
  unfold laws_heldAsksResult
  simp [t0]
  all_goals omega

def mByte (_ : Int) (k : Int) : Int := IntKind.u8.wrap k

theorem markByteSr_eq (xs : List Int) (hx : xs.length ≤ 1049600 ∧ ∀ y0 ∈ xs, True) (k : Int) (h0 : 0 ≤ k) (h1 : k + cs c1 xs ≤ 9223372036854775807) : laws_markByteSr xs k = some (k + cs c1 xs, pm mByte c1 xs k) := by
  unfold laws_markByteSr laws_markByteSr_l1
  have key := mark_loop mByte c1 (fun y0 => True) c1_nonneg (b := laws_markByteSr_l1b) ?_ ?_ xs [] k hx.2 h0 h1 (by have := hx.1; simp; omega)
  · simp only [List.nil_append, List.length_nil, Int.natCast_zero] at key
    rw [key]
    rfl
  · intro l r x k hP h0 hk hl
    simp only [c1] at hk
    have w0 := w64_of (x := k + 1) (by omega) (by omega)
    have hi2 : w64 ((l.length : Int) + 1) = ((l.length + 1 : Nat) : Int) := w64_nat (by omega)
    unfold laws_markByteSr_l1b
    rw [if_pos (by simp; omega)]
    simp only [idx_append, set_app, Option.bind_some, Int.toNat_natCast, hi2, w0]
    rfl
  · intro l k
    unfold laws_markByteSr_l1b
    rw [if_neg (by simp)]

noncomputable def mFile (x : File) (k : Int) : File := ({ Path := mT (k), Data := pm mByte c1 x.Data (k + 1) } : File)

noncomputable def cFile (x : File) : Int := 1 + cs c1 x.Data

theorem cFile_nonneg (x : File) : 0 ≤ cFile x := by
  have n1 := cs_nonneg c1_nonneg x.Data
  unfold cFile
  omega

theorem markFileSr_eq (xs : List File) (hx : xs.length ≤ 1049600 ∧ ∀ y0 ∈ xs, File.sm 1049600 y0) (k : Int) (h0 : 0 ≤ k) (h1 : k + cs cFile xs ≤ 9223372036854775807) : laws_markFileSr xs k = some (k + cs cFile xs, pm mFile cFile xs k) := by
  unfold laws_markFileSr laws_markFileSr_l1
  have key := mark_loop mFile cFile (fun y0 => File.sm 1049600 y0) cFile_nonneg (b := laws_markFileSr_l1b) ?_ ?_ xs [] k hx.2 h0 h1 (by have := hx.1; simp; omega)
  · simp only [List.nil_append, List.length_nil, Int.natCast_zero] at key
    rw [key]
    rfl
  · intro l r x k hP h0 hk hl
    simp only [cFile] at hk
    have n1 := cs_nonneg c1_nonneg x.Data
    have t0 := markText_eq (k := k) (by omega) (by omega)
    have w0 := w64_of (x := k + 1) (by omega) (by omega)
    have t1 := markByteSr_eq x.Data (hP.2) (k + 1) (by omega) (by omega)
    have hi2 : w64 ((l.length : Int) + 1) = ((l.length + 1 : Nat) : Int) := w64_nat (by omega)
    unfold laws_markFileSr_l1b
    rw [if_pos (by simp; omega)]
    simp only [idx_append, set_app, Option.bind_some, Int.toNat_natCast, hi2, t0, w0, t1, same_of (pm_length _ _ _ _)]
    rw [show k + 1 + cs c1 x.Data = k + cFile x from by simp only [cFile]; omega]
    rfl
  · intro l k
    unfold laws_markFileSr_l1b
    rw [if_neg (by simp)]

theorem markDiskg_eq (x : Disk) (hP : Disk.sm 1049600 x) (k : Int) (h0 : 0 ≤ k) (h1 : k + cs cFile x.Files ≤ 9223372036854775807) : laws_markDiskg x k = some (k + cs cFile x.Files, pm mFile cFile x.Files (k)) := by
  have n0 := cs_nonneg cFile_nonneg x.Files
  have t0 := markFileSr_eq x.Files (hP.1) (k) (by omega) (by omega)
  unfold laws_markDiskg
  simp only [t0, Option.bind_some, same_of (pm_length _ _ _ _)]

theorem File.sm_mono {x : File} (h : File.sm 1048576 x) : File.sm 1049600 x := ⟨(Nat.le_trans h.1 (by decide)), ⟨Nat.le_trans h.2.1 (by decide), fun y0 z0 => trivial⟩⟩

theorem Disk.sm_mono {x : Disk} (h : Disk.sm 1048576 x) : Disk.sm 1049600 x := ⟨⟨Nat.le_trans h.1.1 (by decide), fun y0 z0 => (File.sm_mono (h.1.2 y0 z0))⟩, trivial, trivial, trivial, trivial⟩

theorem csByteS_le (x : (List Int)) (hx : x.length ≤ 1049600 ∧ ∀ y0 ∈ x, True) : cs c1 x ≤ 1049600 := by
  have := cs_le (c := c1) (C := 1) (N := 1049600) (by decide) x (fun a _ => by unfold c1; decide) hx.1
  omega

theorem csFileS_le (x : (List File)) (hx : x.length ≤ 1049600 ∧ ∀ y0 ∈ x, File.sm 1049600 y0) : cs cFile x ≤ 1101661209600 := by
  have := cs_le (c := cFile) (C := 1049601) (N := 1049600) (by decide) x (fun a ha => by have hP := hx.2 a ha; have q1 := csByteS_le a.Data (hP.2); unfold cFile; omega) hx.1
  omega

theorem csTermS_le (x : (List Term)) (hx : x.length ≤ 1049600 ∧ ∀ y0 ∈ x, Term.sm 1049600 y0) : cs cTerm x ≤ 7347200 := by
  have := cs_le (c := cTerm) (C := 7) (N := 1049600) (by decide) x (fun a ha => by have hP := hx.2 a ha; unfold cTerm; omega) hx.1
  omega

theorem FnExactRootsOf_true (a1 : Disk) (k0 : Disk.ok a1) (both : (Disk.sm 1048576 a1) → ∃ r, spec_RootsOf a1 = some r ∧ impl_RootsOf a1 = some r ∧ (AsksResult.sm 1049600 r)) : laws_FnExactRootsOf a1 = some true := by
  unfold laws_FnExactRootsOf
  obtain ⟨r1, e1, g1⟩ := szDisk_ok a1 k0 1048576 (by omega) (by omega)
  rw [e1]
  simp only [Option.bind_some]
  by_cases d1 : r1 < 0
  · rw [if_pos (by simpa using d1)]
  rw [if_neg (by simpa using d1)]
  obtain ⟨p1, q1, s_a1⟩ := g1.resolve_left d1
  obtain ⟨r, e1, e2, hr⟩ := both s_a1
  have m_a1 : Disk.sm 1049600 a1 := (Disk.sm_mono s_a1)
  have n1 := cs_nonneg cFile_nonneg a1.Files
  have b1 := csFileS_le a1.Files (m_a1.1)
  have n3 := cs_nonneg cTerm_nonneg r.Asks
  have b3 := csTermS_le r.Asks (hr.2)
  have t2 := markDiskg_eq a1 m_a1 (1) (by omega) (by omega)
  have z1 : ¬ (1 + cs cFile a1.Files < 0) := by omega
  have t4 := markAsksResultg_eq r hr 1 (by omega) (by omega)
  have u4 := heldAsksResult_eq r hr 1 (by omega) (by omega)
  have z2 : ¬ (1 + cs cTerm r.Asks < 0) := by omega
  simp [e1, e2, toDisk_eq a1 m_a1, eqDisk_self a1 m_a1, eqAsksResult_self r hr, t2, z1, t4, u4, z2, same_of (pm_length _ _ _ _)]

/-! ### Texts as lists of bytes -/
def bl (s : ByteArray) : List Int := s.toList.map (fun b => (b.toNat : Int))

theorem bl_length (s : ByteArray) : (bl s).length = s.size := by
  unfold bl
  rw [List.length_map, ByteArray.toList_eq]
  rfl

theorem bidx_nat {s : ByteArray} {i : Nat} (h : i < (bl s).length) : bidx s (i : Int) = some (bl s)[i] := by
  unfold bidx
  rw [if_pos (by omega)]
  have hs : i < s.size := by rw [bl_length] at h; exact h
  have e : s[(i : Int).toNat]? = some s[i] := by simp [hs]
  rw [e]
  simp only [Option.map_some, bl, List.getElem_map]
  congr 2
  simp only [ByteArray.toList_eq]
  rfl

theorem bl_range {s : ByteArray} : ∀ c ∈ bl s, 0 ≤ c ∧ c ≤ 255 := by
  intro c hc
  unfold bl at hc
  obtain ⟨b, _, rfl⟩ := List.mem_map.1 hc
  have := b.toNat_lt
  omega

theorem less_irrefl : ∀ (a : List UInt8), Op.bytesLess a a = false
  | [] => rfl
  | x :: a => by simp [Op.bytesLess, less_irrefl a]

theorem less_trans : ∀ {a b c : List UInt8}, Op.bytesLess a b = true → Op.bytesLess b c = true → Op.bytesLess a c = true
  | _, [], _, h, _ => by simp [Op.bytesLess] at h
  | _, _ :: _, [], _, h => by simp [Op.bytesLess] at h
  | [], _ :: _, _ :: _, _, _ => by simp [Op.bytesLess]
  | x :: a, y :: b, z :: c, h1, h2 => by
    simp only [Op.bytesLess, Bool.or_eq_true, decide_eq_true_eq, Bool.and_eq_true, beq_iff_eq] at h1 h2 ⊢
    rcases h1 with h1 | ⟨rfl, h1⟩
    · rcases h2 with h2 | ⟨rfl, h2⟩
      · exact .inl (UInt8.lt_trans h1 h2)
      · exact .inl h1
    · rcases h2 with h2 | ⟨rfl, h2⟩
      · exact .inl h2
      · exact .inr ⟨rfl, less_trans h1 h2⟩

theorem less_tri : ∀ (a b : List UInt8), Op.bytesLess a b = false → a ≠ b → Op.bytesLess b a = true
  | [], [], _, h => absurd rfl h
  | [], _ :: _, h, _ => by simp [Op.bytesLess] at h
  | _ :: _, [], _, _ => by simp [Op.bytesLess]
  | x :: a, y :: b, h, hne => by
    simp only [Op.bytesLess, Bool.or_eq_false_iff, decide_eq_false_iff_not, Bool.and_eq_false_iff, beq_eq_false_iff_ne] at h
    simp only [Op.bytesLess, Bool.or_eq_true, decide_eq_true_eq, Bool.and_eq_true, beq_iff_eq]
    by_cases hxy : x = y
    · subst hxy
      refine .inr ⟨rfl, less_tri a b ?_ (fun e => hne (by rw [e]))⟩
      rcases h.2 with h' | h'
      · exact absurd rfl h'
      · exact h'
    · refine .inl ?_
      have := h.1
      rw [UInt8.lt_iff_toNat_lt] at this ⊢
      have : x.toNat ≠ y.toNat := fun e => hxy (UInt8.toNat_inj.1 e)
      omega

theorem toList_inj {a b : ByteArray} (h : a.toList = b.toList) : a = b := by
  rw [ByteArray.toList_eq, ByteArray.toList_eq] at h
  cases a; cases b
  simp at h
  rw [h]

theorem slt_irrefl (a : ByteArray) : slt a a = false := less_irrefl _

theorem slt_trans {a b c : ByteArray} (h1 : slt a b = true) (h2 : slt b c = true) : slt a c = true := less_trans h1 h2

theorem slt_tri {a b : ByteArray} (h : slt a b = false) (hne : a ≠ b) : slt b a = true := less_tri _ _ h (fun e => hne (toList_inj e))

theorem seq_iff {a b : ByteArray} : seq a b = true ↔ a = b := by
  unfold seq
  simp only [beq_iff_eq]
  exact ⟨toList_inj, fun e => by rw [e]⟩

theorem seq_eq (a b : ByteArray) : seq a b = decide (a = b) := by
  rw [Bool.eq_iff_iff, seq_iff]; simp

theorem in_eq (a b c : Int) : spec_l1In a b c = some (decide (a ≥ b) && decide (a ≤ c)) := by
  unfold spec_l1In
  cases decide (a ≥ b) <;> rfl

/-! ### Decimals -/
theorem bl_append (a b : ByteArray) : bl (a ++ b) = bl a ++ bl b := by
  unfold bl
  rw [ByteArray.toList_eq, ByteArray.toList_eq, ByteArray.toList_eq]
  simp

theorem bl_extract (s : ByteArray) (i j : Nat) : bl (s.extract i j) = ((bl s).drop i).take (j - i) := by
  unfold bl
  rw [ByteArray.toList_eq, ByteArray.toList_eq]
  simp [List.map_drop, List.map_take]

theorem bl_inj {a b : ByteArray} : bl a = bl b ↔ a = b := by
  constructor
  · intro h
    unfold bl at h
    refine toList_inj ?_
    have hinj : ∀ (x y : List UInt8), x.map (fun b => (b.toNat : Int)) = y.map (fun b => (b.toNat : Int)) → x = y := by
      intro x
      induction x with
      | nil => intro y h; cases y <;> simp_all
      | cons u x ih =>
        intro y h
        cases y with
        | nil => simp at h
        | cons v y =>
          simp only [List.map_cons, List.cons.injEq] at h
          rw [ih y h.2]
          have : u.toNat = v.toNat := by omega
          rw [UInt8.toNat_inj.1 this]
    exact hinj _ _ h
  · intro h; rw [h]

theorem seq_bl (a b : ByteArray) : seq a b = decide (bl a = bl b) := by
  rw [seq_eq]
  simp [bl_inj]

theorem bl_b2s1 {c : Int} (h0 : 0 ≤ c) (h1 : c ≤ 255) : bl (b2s [c]) = [c] := by
  unfold bl b2s
  rw [ByteArray.toList_eq]
  simp only [List.foldl_cons, List.foldl_nil]
  show [((UInt8.ofNat c.toNat).toNat : Int)] = [c]
  simp
  omega

theorem wrap_u8 {c : Int} (h0 : 0 ≤ c) (h1 : c ≤ 255) : IntKind.u8.wrap c = c := by
  simp only [IntKind.wrap, IntKind.signed, IntKind.bits]
  simp
  omega

/-- The digits of a number. -/
def decL (n : Nat) : List Int := if n < 10 then [48 + (n : Int)] else decL (n / 10) ++ [48 + ((n % 10 : Nat) : Int)]
termination_by n
decreasing_by omega

theorem decL_small {n : Nat} (h : n < 10) : decL n = [48 + (n : Int)] := by rw [decL, if_pos h]

theorem decL_big {n : Nat} (h : ¬ n < 10) : decL n = decL (n / 10) ++ [48 + ((n % 10 : Nat) : Int)] := by rw [decL, if_neg h]

theorem decL_le : ∀ (k n : Nat), n < 10 ^ (k + 1) → (decL n).length ≤ k + 1
  | 0, n, h => by rw [decL_small (by simpa using h)]; simp
  | k + 1, n, h => by
    by_cases hn : n < 10
    · rw [decL_small hn]; simp
    · rw [Nat.pow_succ] at h
      rw [decL_big hn, List.length_append]
      have := decL_le k (n / 10) (by omega)
      simp only [List.length_singleton]
      omega

theorem l1Decimal_r_eq (g : Int → Option ByteArray) (a1 : Int) : spec_l1Decimal_r g a1 = if decide (a1 < 10) then some (b2s [IntKind.u8.wrap (w64 (48 + a1))]) else (g (w64 (a1.tdiv 10))).bind fun x3 => (cat x3 (b2s [IntKind.u8.wrap (w64 (48 + (a1.tmod 10)))])).bind fun x5 => some x5 := rfl

theorem l1Decimal_fuel : ∀ (k f n : Nat), n < 10 ^ (k + 1) → k < f → n ≤ 9000000000000000000 → k ≤ 100 → ∃ s, recF spec_l1Decimal_r f (n : Int) = some s ∧ bl s = decL n
  | k, 0, n, _, hf, _, _ => by omega
  | k, f + 1, n, h, hf, hn, hk => by
    rw [show recF spec_l1Decimal_r (f + 1) (n : Int) = spec_l1Decimal_r (recF spec_l1Decimal_r f) (n : Int) from rfl, l1Decimal_r_eq]
    by_cases h1 : n < 10
    · rw [if_pos (by simp; omega), w64_of (by omega) (by omega), wrap_u8 (by omega) (by omega)]
      exact ⟨_, rfl, by rw [bl_b2s1 (by omega) (by omega), decL_small h1]⟩
    · rw [if_neg (by simp; omega)]
      cases k with
      | zero => simp at h; omega
      | succ k =>
        have e1 : w64 ((n : Int).tdiv 10) = ((n / 10 : Nat) : Int) := by
          rw [Int.tdiv_eq_ediv_of_nonneg (by omega), w64_of (by omega) (by omega)]; omega
        have e2 : (n : Int).tmod 10 = ((n % 10 : Nat) : Int) := by
          rw [Int.tmod_eq_emod_of_nonneg (by omega)]; omega
        rw [Nat.pow_succ] at h
        obtain ⟨s, e, hs⟩ := l1Decimal_fuel k f (n / 10) (by omega) (by omega) (by omega) (by omega)
        rw [e1, e2, e, w64_of (by omega) (by omega), wrap_u8 (by omega) (by omega)]
        have hsz : s.size ≤ k + 1 := by
          rw [← bl_length, hs]
          exact decL_le k (n / 10) (by omega)
        simp only [Option.bind_some]
        unfold cat
        rw [if_pos (by have : (b2s [48 + ((n % 10 : Nat) : Int)]).size = 1 := rfl; omega)]
        exact ⟨_, rfl, by rw [bl_append, hs, bl_b2s1 (by omega) (by omega), decL_big h1]⟩

theorem l1Decimal_some (n : Nat) (h : n ≤ 9000000000000000000) : ∃ s, spec_l1Decimal (n : Int) = some s ∧ bl s = decL n :=
  l1Decimal_fuel 18 64 n (by omega) (by omega) h (by omega)

theorem bl_bs (l : List UInt8) : bl (bs l) = l.map (fun b => (b.toNat : Int)) := by
  unfold bl bs
  rw [ByteArray.toList_eq]

theorem cat_of {a b : ByteArray} (h : a.size + b.size ≤ 1099511627776) : cat a b = some (a ++ b) := if_pos h

theorem ba_assoc (a b c : ByteArray) : a ++ b ++ c = a ++ (b ++ c) := bl_inj.1 (by simp only [bl_append, List.append_assoc])

theorem ba_size (a b : ByteArray) : (a ++ b).size = a.size + b.size := by
  rw [← bl_length, bl_append, List.length_append, bl_length, bl_length]

theorem u8_ofNat_toNat {n : Nat} (h : n < 256) : (UInt8.ofNat n).toNat = n := by
  simp [Nat.mod_eq_of_lt h]

theorem decDigits_eq : ∀ (n : Nat), (Lib.decDigits n).map (fun b => (b.toNat : Int)) = decL n := by
  intro n
  induction n using Nat.strongRecOn with
  | ind n ih =>
    rw [Lib.decDigits]
    by_cases h : n < 10
    · rw [dif_pos h, decL_small h]
      simp only [List.map_cons, List.map_nil]
      rw [u8_ofNat_toNat (by omega)]
      simp
    · rw [dif_neg h, decL_big h, List.map_append, ih (n / 10) (by omega)]
      simp only [List.map_cons, List.map_nil]
      rw [u8_ofNat_toNat (by omega)]
      simp

/-- The text of a number. -/
def decS (n : Nat) : ByteArray := ⟨(Lib.decDigits n).toArray⟩

theorem bl_decS (n : Nat) : bl (decS n) = decL n := by
  unfold bl decS
  rw [ByteArray.toList_eq]
  exact decDigits_eq n

theorem l1Decimal_eq (n : Nat) (h : n ≤ 9000000000000000000) : spec_l1Decimal (n : Int) = some (decS n) := by
  obtain ⟨s, e, hs⟩ := l1Decimal_some n h
  rw [e, bl_inj.1 (hs.trans (bl_decS n).symm)]

/-! ### strconv.FormatInt -/
theorem FormatInt_eq (n : Nat) (h : n ≤ 9000000000000000000) : strconv_FormatInt (n : Int) 10 = some (decS n) := by
  unfold strconv_FormatInt
  rw [if_pos (by omega)]
  unfold Lib.itoa decS
  rw [if_neg (by omega)]
  simp

/-! ### Bounds -/
def inB (a b c : Int) : Bool := decide (b ≤ a) && decide (a ≤ c)

theorem l1In_eq (a b c : Int) : spec_l1In a b c = some (inB a b c) := by
  unfold spec_l1In inB
  by_cases h : a ≥ b <;> simp [h]

theorem within_eq (a b c : Int) : impl_within a b c = some (inB a b c) := by
  unfold impl_within inB
  by_cases h : b ≤ a <;> simp [h]

section del
variable {α : Type} (p : α → Bool)

theorem lsub_of {xs : List α} {l h : Nat} (h1 : l ≤ h) (h2 : h ≤ xs.length) : lsub xs (l : Int) (h : Int) = some ((xs.drop l).take (h - l)) := by
  unfold lsub
  rw [if_pos (by omega)]
  rfl

theorem clrw_of {xs : List α} {l n : Nat} {a : α} (h : l + n ≤ xs.length) : clrw xs (l : Int) n a = some (xs.take l ++ List.replicate n a ++ xs.drop (l + n)) := by
  unfold clrw
  rw [if_pos (by omega)]
  simp [ovr]

/-- The first one that is meant; else the end. -/
theorem ixf_loop {R : Type} (a1 : List α) (out : Int → R) {b : Int → Option (Lp Int (Fl R Unit))} (hl : a1.length < 9223372036854775807)
    (hstep : ∀ (i : Nat) (hi : i < a1.length), b (i : Int) = some (if p a1[i] then .done (.ret (out i)) else .go ((i + 1 : Nat) : Int))) (hend : b (a1.length : Int) = some (.done (.nxt ()))) :
    ∃ t, loop b 0 = some t ∧ ((t = .nxt () ∧ ∀ x ∈ a1, p x = false) ∨ ∃ i : Nat, ∃ hi : i < a1.length, t = .ret (out i) ∧ p a1[i] = true ∧ ∀ x ∈ a1.take i, p x = false) := by
  refine loop_up (b := b) (fun i s => s = (i : Int) ∧ ∀ x ∈ a1.take i, p x = false) a1.length _ (by
    rintro i s hi ⟨rfl, hn⟩
    have e := hstep i hi
    cases hp : p a1[i]
    · rw [hp] at e
      refine .inl ⟨_, e, rfl, fun x hx => ?_⟩
      rw [List.take_succ_eq_append_getElem hi] at hx
      rcases List.mem_append.1 hx with hx | hx
      · exact hn x hx
      · simp at hx; rw [hx]; exact hp
    · rw [hp] at e
      exact .inr ⟨_, e, .inr ⟨i, hi, rfl, hp, hn⟩⟩) (by
    rintro s ⟨rfl, hn⟩
    rw [List.take_length] at hn
    exact ⟨_, hend, .inl ⟨rfl, hn⟩⟩) a1.length 0 0 (by omega) ⟨rfl, by simp⟩

theorem set_take {xs : List α} {i : Nat} {x : α} (h : i < xs.length) : (xs.set i x).take (i + 1) = xs.take i ++ [x] := by
  rw [List.take_succ_eq_append_getElem (by simpa using h), List.take_set_of_le (Nat.le_refl _)]
  simp

theorem set_drop {xs : List α} {i j : Nat} {x : α} (h : i < j) : (xs.set i x).drop j = xs.drop j := by
  rw [List.drop_set_of_lt h]

/-- What stays is moved to the front. -/
theorem del_loop (a : List α) {b : (List α × Int × Int) → Option (Lp (List α × Int × Int) (List α × Int))} (hl : a.length < 9223372036854775807)
    (hstep : ∀ (xs : List α) (i j : Nat) (hj : j < xs.length), i ≤ j → xs.length = a.length → b (xs, (i : Int), (j : Int)) = some (.go (if p xs[j] then (xs, (i : Int), ((j + 1 : Nat) : Int)) else (xs.set i xs[j], ((i + 1 : Nat) : Int), ((j + 1 : Nat) : Int)))))
    (hend : ∀ (xs : List α) (i : Nat), xs.length = a.length → b (xs, (i : Int), (xs.length : Int)) = some (.done (xs, (i : Int)))) (i0 j0 : Nat) (hij : i0 ≤ j0) (hj0 : j0 ≤ a.length) (h0 : a.take i0 = (a.take j0).filter (fun x => !p x)) :
    ∃ ys : List α, loop b (a, (i0 : Int), (j0 : Int)) = some (ys, ((a.filter (fun x => !p x)).length : Int)) ∧ ys.length = a.length ∧ ys.take (a.filter (fun x => !p x)).length = a.filter (fun x => !p x) := by
  obtain ⟨t, e, h⟩ := loop_up (b := b) (fun j s => s.1.length = a.length ∧ s.1.drop j = a.drop j ∧ s.2.2 = (j : Int) ∧ ∃ i : Nat, s.2.1 = (i : Int) ∧ i ≤ j ∧ s.1.take i = (a.take j).filter (fun x => !p x)) a.length
    (fun t => t.1.length = a.length ∧ ∃ i : Nat, t.2 = (i : Int) ∧ i ≤ a.length ∧ t.1.take i = a.filter (fun x => !p x)) (by
    rintro j ⟨xs, i', j'⟩ hj ⟨hxl, hxd, hjj, i, hi, hle, ht⟩
    simp only at hxl hxd hjj hi ht
    subst hjj hi
    have hjx : j < xs.length := by omega
    have hx : xs[j] = a[j] := by
      have := congrArg (fun l => l[0]?) hxd
      simp only [List.getElem?_drop, Nat.add_zero] at this
      rw [List.getElem?_eq_getElem hjx, List.getElem?_eq_getElem hj] at this
      exact Option.some.inj this
    have e := hstep xs i j hjx hle hxl
    have htk : (a.take (j + 1)).filter (fun x => !p x) = (a.take j).filter (fun x => !p x) ++ (if p a[j] then [] else [a[j]]) := by
      rw [List.take_succ_eq_append_getElem hj, List.filter_append]
      cases h : p a[j] <;> simp [h]
    have hd1 : a.drop (j + 1) = xs.drop (j + 1) := by
      have := congrArg (List.drop 1) hxd
      simpa [List.drop_drop] using this.symm
    rw [hx] at e
    cases hp : p a[j]
    · rw [hp] at e htk
      refine .inl ⟨_, e, by simpa using hxl, ?_, rfl, i + 1, rfl, by omega, ?_⟩
      · show (xs.set i a[j]).drop (j + 1) = a.drop (j + 1)
        rw [set_drop (by omega), hd1]
      · show (xs.set i a[j]).take (i + 1) = _
        rw [set_take (by omega), htk, ht]
        rfl
    · rw [hp] at e htk
      refine .inl ⟨_, e, hxl, ?_, rfl, i, rfl, by omega, ?_⟩
      · exact hd1.symm
      · show xs.take i = _
        rw [htk, ht]
        simp) (by
    rintro ⟨xs, i', j'⟩ ⟨hxl, hxd, hjj, i, hi, hle, ht⟩
    simp only at hxl hxd hjj hi ht
    subst hjj hi
    have e := hend xs i hxl
    rw [hxl] at e
    refine ⟨_, e, hxl, i, rfl, hle, ?_⟩
    rw [List.take_length] at ht
    exact ht) (a.length - j0) j0 (a, (i0 : Int), (j0 : Int)) (by omega) ⟨rfl, rfl, rfl, i0, rfl, hij, h0⟩
  obtain ⟨ys, i'⟩ := t
  obtain ⟨h1, i, h2, h3, h4⟩ := h
  simp only at h1 h2 h4
  subst h2
  have hlen : i = (a.filter (fun x => !p x)).length := by rw [← h4]; simp; omega
  subst hlen
  exact ⟨ys, e, h1, h4⟩

/-- The same, where the elements are known to be of the list. -/
theorem del_loop2 (a : List α) {b : (List α × Int × Int) → Option (Lp (List α × Int × Int) (List α × Int))} (hl : a.length < 9223372036854775807)
    (hstep : ∀ (xs : List α) (i j : Nat) (hj : j < xs.length), i ≤ j → xs.length = a.length → xs[j] ∈ a → b (xs, (i : Int), (j : Int)) = some (.go (if p xs[j] then (xs, (i : Int), ((j + 1 : Nat) : Int)) else (xs.set i xs[j], ((i + 1 : Nat) : Int), ((j + 1 : Nat) : Int)))))
    (hend : ∀ (xs : List α) (i : Nat), xs.length = a.length → b (xs, (i : Int), (xs.length : Int)) = some (.done (xs, (i : Int)))) (i0 j0 : Nat) (hij : i0 ≤ j0) (hj0 : j0 ≤ a.length) (h0 : a.take i0 = (a.take j0).filter (fun x => !p x)) :
    ∃ ys : List α, loop b (a, (i0 : Int), (j0 : Int)) = some (ys, ((a.filter (fun x => !p x)).length : Int)) ∧ ys.length = a.length ∧ ys.take (a.filter (fun x => !p x)).length = a.filter (fun x => !p x) := by
  obtain ⟨t, e, h⟩ := loop_up (b := b) (fun j s => s.1.length = a.length ∧ s.1.drop j = a.drop j ∧ s.2.2 = (j : Int) ∧ ∃ i : Nat, s.2.1 = (i : Int) ∧ i ≤ j ∧ s.1.take i = (a.take j).filter (fun x => !p x)) a.length
    (fun t => t.1.length = a.length ∧ ∃ i : Nat, t.2 = (i : Int) ∧ i ≤ a.length ∧ t.1.take i = a.filter (fun x => !p x)) (by
    rintro j ⟨xs, i', j'⟩ hj ⟨hxl, hxd, hjj, i, hi, hle, ht⟩
    simp only at hxl hxd hjj hi ht
    subst hjj hi
    have hjx : j < xs.length := by omega
    have hx : xs[j] = a[j] := by
      have := congrArg (fun l => l[0]?) hxd
      simp only [List.getElem?_drop, Nat.add_zero] at this
      rw [List.getElem?_eq_getElem hjx, List.getElem?_eq_getElem hj] at this
      exact Option.some.inj this
    have e := hstep xs i j hjx hle hxl (by rw [hx]; exact List.getElem_mem hj)
    have htk : (a.take (j + 1)).filter (fun x => !p x) = (a.take j).filter (fun x => !p x) ++ (if p a[j] then [] else [a[j]]) := by
      rw [List.take_succ_eq_append_getElem hj, List.filter_append]
      cases h : p a[j] <;> simp [h]
    have hd1 : a.drop (j + 1) = xs.drop (j + 1) := by
      have := congrArg (List.drop 1) hxd
      simpa [List.drop_drop] using this.symm
    rw [hx] at e
    cases hp : p a[j]
    · rw [hp] at e htk
      refine .inl ⟨_, e, by simpa using hxl, ?_, rfl, i + 1, rfl, by omega, ?_⟩
      · show (xs.set i a[j]).drop (j + 1) = a.drop (j + 1)
        rw [set_drop (by omega), hd1]
      · show (xs.set i a[j]).take (i + 1) = _
        rw [set_take (by omega), htk, ht]
        rfl
    · rw [hp] at e htk
      refine .inl ⟨_, e, hxl, ?_, rfl, i, rfl, by omega, ?_⟩
      · exact hd1.symm
      · show xs.take i = _
        rw [htk, ht]
        simp) (by
    rintro ⟨xs, i', j'⟩ ⟨hxl, hxd, hjj, i, hi, hle, ht⟩
    simp only at hxl hxd hjj hi ht
    subst hjj hi
    have e := hend xs i hxl
    rw [hxl] at e
    refine ⟨_, e, hxl, i, rfl, hle, ?_⟩
    rw [List.take_length] at ht
    exact ht) (a.length - j0) j0 (a, (i0 : Int), (j0 : Int)) (by omega) ⟨rfl, rfl, rfl, i0, rfl, hij, h0⟩
  obtain ⟨ys, i'⟩ := t
  obtain ⟨h1, i, h2, h3, h4⟩ := h
  simp only at h1 h2 h4
  subst h2
  have hlen : i = (a.filter (fun x => !p x)).length := by rw [← h4]; simp; omega
  subst hlen
  exact ⟨ys, e, h1, h4⟩

theorem fin_del {a ys : List α} (zero : α) (h1 : ys.length = a.length) (h2 : ys.take (a.filter (fun x => !p x)).length = a.filter (fun x => !p x)) :
    (lsub ys ((a.filter (fun x => !p x)).length : Int) (ys.length : Int)).bind (fun r => (clrw ys ((a.filter (fun x => !p x)).length : Int) r.length zero).bind fun z => (lsub z 0 ((a.filter (fun x => !p x)).length : Int)).bind fun q => some q) = some (a.filter (fun x => !p x)) := by
  have hle : (a.filter (fun x => !p x)).length ≤ ys.length := by rw [h1]; exact List.length_filter_le _ _
  rw [lsub_of hle (Nat.le_refl _)]
  simp only [Option.bind_some]
  rw [clrw_of (by simp; omega)]
  simp only [Option.bind_some]
  have : lsub (List.take (List.filter (fun x => !p x) a).length ys ++ List.replicate (List.take (ys.length - (List.filter (fun x => !p x) a).length) (List.drop (List.filter (fun x => !p x) a).length ys)).length zero ++
          List.drop ((List.filter (fun x => !p x) a).length + (List.take (ys.length - (List.filter (fun x => !p x) a).length) (List.drop (List.filter (fun x => !p x) a).length ys)).length) ys) ((0 : Nat) : Int) ((a.filter (fun x => !p x)).length : Int) = some (a.filter (fun x => !p x)) := by
    rw [lsub_of (by omega) (by simp; omega)]
    rw [h2]
    simp
  exact (congrArg (fun o => Option.bind o fun q => some q) this)

/-- slices.DeleteFunc, as it is told. -/
theorem del_gen (a : List α) (zero : α) (hl : a.length ≤ 1048577) {b1 : Int → Option (Lp Int (Fl Int Unit))} {b2 : (List α × Int × Int) → Option (Lp (List α × Int × Int) (List α × Int))}
    (h1 : ∀ (i : Nat) (hi : i < a.length), b1 (i : Int) = some (if p a[i] then .done (.ret (i : Int)) else .go ((i + 1 : Nat) : Int))) (h1e : b1 (a.length : Int) = some (.done (.nxt ())))
    (h2 : ∀ (xs : List α) (i j : Nat) (hj : j < xs.length), i ≤ j → xs.length = a.length → xs[j] ∈ a → b2 (xs, (i : Int), (j : Int)) = some (.go (if p xs[j] then (xs, (i : Int), ((j + 1 : Nat) : Int)) else (xs.set i xs[j], ((i + 1 : Nat) : Int), ((j + 1 : Nat) : Int)))))
    (h2e : ∀ (xs : List α) (i : Nat), xs.length = a.length → b2 (xs, (i : Int), (xs.length : Int)) = some (.done (xs, (i : Int)))) :
    ((loop b1 0).bind (Fl.go some fun _ => some (-1))).bind (fun x4 => if x4 == (-1) then (some a) else ((loop b2 (a, x4, w64 (x4 + 1))).bind fun v26 => (lsub v26.1 v26.2 (v26.1.length : Int)).bind fun x27 => (clrw v26.1 v26.2 x27.length zero).bind fun x29 => (lsub x29 0 v26.2).bind fun x31 => some x31)) = some (a.filter (fun x => !p x)) := by
  obtain ⟨t, e, h⟩ := ixf_loop p a (fun i => i) (b := b1) (by omega) h1 h1e
  rw [e]
  rcases h with ⟨rfl, hn⟩ | ⟨i, hi, rfl, hp, hn⟩
  · show some a = _
    congr 1
    exact (List.filter_eq_self.2 (fun x hx => by rw [hn x hx]; rfl)).symm
  · simp only [Option.bind_some, Fl.go]
    rw [if_neg (by simp), w64_nat (by omega)]
    obtain ⟨ys, e2, h3, h4⟩ := del_loop2 p a (b := b2) (by omega) h2 h2e i (i + 1) (by omega) (by omega) (by
      rw [List.take_succ_eq_append_getElem hi, List.filter_append]
      rw [List.filter_eq_self.2 (fun x hx => by rw [hn x hx]; rfl)]
      simp [hp])
    rw [e2]
    simp only [Option.bind_some]
    exact fin_del p zero h3 h4
end del

/-! ### Walks that stop at the first one -/
def scanL {α R : Type} (g : Nat → α → Option R) : Nat → List α → Option R
  | _, [] => none
  | i, x :: xs => match g i x with
    | some r => some r
    | none => scanL g (i + 1) xs

def frs {R : Type} : Option R → Fl R Unit
  | some r => .ret r
  | none => .nxt ()

theorem loop_scanI {α R : Type} (xs : List α) (g : Nat → α → Option R) {b : Int → Option (Lp Int (Fl R Unit))}
    (hstep : ∀ (i : Nat) (hi : i < xs.length), b (i : Int) = some (match g i xs[i] with | some r => .done (.ret r) | none => .go ((i + 1 : Nat) : Int))) (hend : b (xs.length : Int) = some (.done (.nxt ()))) :
    ∀ (k i : Nat), i + k = xs.length → loop b (i : Int) = some (frs (scanL g i (xs.drop i)))
  | 0, i, h => by
    have e : i = xs.length := by omega
    subst e
    rw [loop_eq, hend, List.drop_length]
    rfl
  | k + 1, i, h => by
    have hi : i < xs.length := by omega
    have ih := loop_scanI xs g hstep hend k (i + 1) (by omega)
    rw [loop_eq, hstep i hi, List.drop_eq_getElem_cons hi]
    simp only [scanL]
    cases g i xs[i] with
    | some r => rfl
    | none => exact ih

theorem loop_scan {α R : Type} (xs : List α) (g : Nat → α → Option R) {b : Int → Option (Lp Int (Fl R Unit))}
    (hstep : ∀ (i : Nat) (hi : i < xs.length), b (i : Int) = some (match g i xs[i] with | some r => .done (.ret r) | none => .go ((i + 1 : Nat) : Int))) (hend : b (xs.length : Int) = some (.done (.nxt ()))) :
    loop b 0 = some (frs (scanL g 0 xs)) := by
  have := loop_scanI xs g hstep hend xs.length 0 (by omega)
  simpa using this

theorem frs_go {R T : Type} (o : Option R) (f : R → Option T) (h : Unit → Option T) : (some (frs o)).bind (Fl.go f h) = match o with | some r => f r | none => h () := by
  cases o <;> rfl

/-- The place of the first one. -/
theorem scan_place {α : Type} (p : α → Bool) : ∀ (xs : List α) (i : Nat), ((scanL (fun j x => if p x then some (j : Int) else none) i xs).getD (-1) ≥ 0) ↔ xs.any p = true
  | [], i => by simp [scanL]
  | x :: xs, i => by
    simp only [scanL]
    cases h : p x
    · simp only [Bool.false_eq_true, if_false, List.any_cons, h, Bool.false_or]
      exact scan_place p xs (i + 1)
    · simp [h]

def foldI {α A : Type} (f : Nat → A → α → A) : Nat → List α → A → A
  | _, [], a => a
  | i, x :: xs, a => foldI f (i + 1) xs (f i a x)

theorem loop_foldI {α A : Type} (xs : List α) (f : Nat → A → α → A) (I : Nat → A → Prop) {b : (A × Int) → Option (Lp (A × Int) A)}
    (hstep : ∀ (i : Nat) (a : A) (hi : i < xs.length), I i a → b (a, (i : Int)) = some (.go (f i a xs[i], ((i + 1 : Nat) : Int))) ∧ I (i + 1) (f i a xs[i])) (hend : ∀ a, b (a, (xs.length : Int)) = some (.done a)) :
    ∀ (k i : Nat) (a : A), i + k = xs.length → I i a → loop b (a, (i : Int)) = some (foldI f i (xs.drop i) a) ∧ I xs.length (foldI f i (xs.drop i) a)
  | 0, i, a, h, hI => by
    have e : i = xs.length := by omega
    subst e
    rw [loop_eq, hend, List.drop_length]
    exact ⟨rfl, hI⟩
  | k + 1, i, a, h, hI => by
    have hi : i < xs.length := by omega
    obtain ⟨h1, h2⟩ := hstep i a hi hI
    have ih := loop_foldI xs f I hstep hend k (i + 1) _ (by omega) h2
    rw [loop_eq, h1, List.drop_eq_getElem_cons hi]
    exact ih

theorem place_ge {o : Option Int} {b : Bool} (h : (o.getD (-1) ≥ 0) ↔ b = true) : decide (o.getD (-1) ≥ 0) = b := by
  rw [Bool.eq_iff_iff, decide_eq_true_eq]; exact h

/-! ### Paths and disks -/
def nameB (c : Int) : Bool := (decide (c ≥ 97) && decide (c ≤ 122)) || (decide (c ≥ 48) && decide (c ≤ 57)) || c == 95

def pathB (c : Int) : Bool := nameB c || c == 46 || c == 45 || c == 47

theorem spec_l1Name_eq (c : Int) : spec_l1Name c = some (nameB c) := by
  unfold spec_l1Name spec_l1Letter spec_l1Digit nameB
  cases decide (c ≥ 97) <;> cases decide (c ≤ 122) <;> cases decide (c ≥ 48) <;> cases decide (c ≤ 57) <;> rfl

theorem spec_l7Byte_eq (c : Int) : spec_l7Byte c = some (pathB c) := by
  unfold spec_l7Byte pathB
  rw [spec_l1Name_eq]
  cases nameB c <;> cases (c == 46) <;> cases (c == 45) <;> cases (c == 47) <;> rfl

theorem impl_isNameByte_eq (c : Int) : impl_isNameByte c = some (nameB c) := by
  unfold impl_isNameByte nameB
  cases decide (c ≥ 97) <;> cases decide (c ≤ 122) <;> cases decide (c ≥ 48) <;> cases decide (c ≤ 57) <;> rfl

theorem PathFault_eq (s : ByteArray) : impl_PathFault s = spec_PathFault s := by
  unfold impl_PathFault spec_PathFault
  have : impl_PathFault_l1 s = spec_PathFault_l1 s := by
    unfold impl_PathFault_l1 spec_PathFault_l1
    refine loop_congr fun i => ?_
    unfold impl_PathFault_l1b spec_PathFault_l1b
    split
    · congr 1
      funext c
      rw [spec_l7Byte_eq, impl_isNameByte_eq]
      unfold pathB
      simp only [bne]
      cases nameB c <;> cases (c == 46) <;> cases (c == 45) <;> cases (c == 47) <;> rfl
    · rfl
  rw [this]

def pathOk (s : ByteArray) : Prop := 1 ≤ s.size ∧ s.size ≤ 40 ∧ ∀ c ∈ bl s, pathB c = true

theorem PathFault_spec (s : ByteArray) : (pathOk s ∧ spec_PathFault s = some 0) ∨ (¬ pathOk s ∧ spec_PathFault s = some 5) := by
  unfold spec_PathFault
  by_cases h1 : s.size < 1
  · refine .inr ⟨fun h => by have := h.1; omega, ?_⟩
    rw [if_pos (by simp; omega)]; rfl
  · rw [if_neg (by simp; omega)]
    simp only [Option.bind_some]
    by_cases h2 : s.size > 40
    · refine .inr ⟨fun h => by have := h.2.1; omega, ?_⟩
      rw [if_pos (by simp; omega)]
    · rw [if_neg (by simp; omega)]
      obtain ⟨t, e, h⟩ := loop_up (b := spec_PathFault_l1b s) (fun i j => j = (i : Int) ∧ ∀ k, (hk : k < (bl s).length) → k < i → pathB (bl s)[k] = true) (bl s).length (fun t => match t with | .ret r => r = 5 ∧ ¬ pathOk s | .nxt _ => ∀ c ∈ bl s, pathB c = true) (by
        rintro i j hi ⟨rfl, hp⟩
        have hs := bl_length s
        unfold spec_PathFault_l1b
        rw [if_pos (by simp; omega), bidx_nat hi]
        simp only [Option.bind_some, spec_l7Byte_eq]
        cases hb : pathB (bl s)[i] with
        | false => exact .inr ⟨_, rfl, rfl, fun h => by have := h.2.2 _ (List.getElem_mem hi); rw [hb] at this; cases this⟩
        | true =>
          rw [w64_nat (by omega)]
          refine .inl ⟨_, rfl, rfl, fun k hk hki => ?_⟩
          rcases Nat.lt_or_ge k i with h | h
          · exact hp k hk h
          · have : k = i := by omega
            subst this; exact hb) (by
        rintro j ⟨rfl, hp⟩
        unfold spec_PathFault_l1b
        rw [if_neg (by simp [bl_length])]
        refine ⟨_, rfl, fun c hc => ?_⟩
        obtain ⟨k, hk, rfl⟩ := List.getElem_of_mem hc
        exact hp k hk hk) (bl s).length 0 0 (by omega) ⟨rfl, fun k _ h => by omega⟩
      simp only [spec_PathFault_l1, e, Option.bind_some]
      cases t with
      | ret r =>
        obtain ⟨rfl, h⟩ := h
        exact .inr ⟨h, rfl⟩
      | nxt u => exact .inl ⟨⟨by omega, by omega, h⟩, rfl⟩

theorem PathFault_some (s : ByteArray) : ∃ r, spec_PathFault s = some r ∧ (r = 0 ↔ pathOk s) := by
  rcases PathFault_spec s with ⟨h1, h2⟩ | ⟨h1, h2⟩
  · exact ⟨0, h2, by simp [h1]⟩
  · exact ⟨5, h2, by simp [h1]⟩

def total (fs : List File) : Int := match fs with
  | [] => 0
  | f :: fs => f.Data.length + total fs

theorem total_append : ∀ (l r : List File), total (l ++ r) = total l + total r
  | [], r => by simp [total]
  | f :: l, r => by simp only [List.cons_append, total, total_append l r]; omega

theorem total_nonneg : ∀ (l : List File), 0 ≤ total l
  | [] => Int.le_refl _
  | f :: l => by have := total_nonneg l; simp only [total]; omega

theorem total_le : ∀ (l : List File) (C : Int), 0 ≤ C → (∀ f ∈ l, (f.Data.length : Int) ≤ C) → total l ≤ l.length * C
  | [], C, _, _ => by simp [total]
  | f :: l, C, hC, h => by
    have h1 := h f (by simp)
    have h2 := total_le l C hC (fun g hg => h g (by simp [hg]))
    simp only [total, List.length_cons, Int.natCast_add, Int.add_mul]
    omega

/-- The bytes of all files. -/
theorem l7Total_eq (d : Disk) (h : d.Files.length ≤ 1048576) (hf : ∀ f ∈ d.Files, f.Data.length ≤ 1048576) : spec_l7Total d = some (total d.Files) := by
  have htot := total_le d.Files 1048576 (by omega) (fun f hm => by have := hf f hm; omega)
  have hb : ((d.Files.length : Int)) * 1048576 ≤ 1048576 * 1048576 := Int.mul_le_mul_of_nonneg_right (by omega) (by omega)
  obtain ⟨t, e, rfl⟩ := loop_up (b := spec_l7Total_l1b d) (fun i s => s = (total (d.Files.take i), (i : Int))) d.Files.length (fun t => t = total d.Files) (by
    rintro i s hi rfl
    unfold spec_l7Total_l1b
    rw [if_pos (by simp; omega)]
    have hsplit : total (d.Files.take (i + 1)) = total (d.Files.take i) + d.Files[i].Data.length := by
      rw [List.take_succ_eq_append_getElem hi, total_append]
      simp [total]
    have hle : total d.Files = total (d.Files.take (i + 1)) + total (d.Files.drop (i + 1)) := by rw [← total_append, List.take_append_drop]
    have h1 := total_nonneg (d.Files.take i)
    have h2 := total_nonneg (d.Files.drop (i + 1))
    simp only [idx_nat hi, Option.bind_some]
    rw [w64_of (by omega) (by omega), w64_nat (by omega)]
    exact .inl ⟨_, rfl, by rw [hsplit]⟩) (by
    rintro s rfl
    unfold spec_l7Total_l1b
    rw [if_neg (by simp)]
    exact ⟨_, rfl, by simp⟩) d.Files.length 0 (0, 0) (by omega) (by simp [total])
  simp only [spec_l7Total, spec_l7Total_l1, e, Option.bind_some]

/-- A disk that is right. -/
structure Disk.good (d : Disk) : Prop where
  b0 : 0 ≤ d.Budget
  b1 : d.Budget ≤ 20000
  w0 : 0 ≤ d.Writes
  w1 : d.Writes ≤ 1000000000
  s0 : -1 ≤ d.Stop
  s1 : d.Stop ≤ 1000000000
  len : d.Files.length ≤ 120
  path : ∀ f ∈ d.Files, pathOk f.Path
  data : ∀ f ∈ d.Files, f.Data.length ≤ 4000
  sorted : d.Files.Pairwise (fun f g => slt f.Path g.Path = true)
  room : total d.Files ≤ d.Budget

theorem DiskFault_same (d : Disk) : impl_DiskFault d = spec_DiskFault d := by
  unfold impl_DiskFault spec_DiskFault
  have : impl_DiskFault_l1 d = spec_DiskFault_l1 d := by
    unfold impl_DiskFault_l1 spec_DiskFault_l1
    refine loop_congr fun i => ?_
    unfold impl_DiskFault_l1b spec_DiskFault_l1b
    split
    · cases hx : idx d.Files i with
      | none => rfl
      | some x => simp only [Option.bind_some, PathFault_eq]
    · rfl
  rw [this]
  rfl

theorem sorted_of {xs : List File} (h : ∀ i, (hi : i + 1 < xs.length) → slt xs[i].Path xs[i + 1].Path = true) : xs.Pairwise (fun f g => slt f.Path g.Path = true) := by
  induction xs with
  | nil => exact .nil
  | cons x xs ih =>
    have h' : ∀ i, (hi : i + 1 < xs.length) → slt xs[i].Path xs[i + 1].Path = true := fun i hi => h (i + 1) (by simp; omega)
    have ih' := ih h'
    refine .cons ?_ ih'
    cases xs with
    | nil => simp
    | cons y ys =>
      have hxy : slt x.Path y.Path = true := by simpa using h 0 (by simp)
      intro z hz
      rcases List.mem_cons.1 hz with rfl | hz
      · exact hxy
      · exact slt_trans hxy ((List.pairwise_cons.1 ih').1 z hz)

theorem DiskFault_spec (d : Disk) (h : d.Files.length ≤ 1048576) : ∃ c, spec_DiskFault d = some c ∧ (c = 0 → d.good) := by
  unfold spec_DiskFault
  simp only [in_eq, Option.bind_some]
  by_cases hB : 0 ≤ d.Budget ∧ d.Budget ≤ 20000
  · by_cases hW : 0 ≤ d.Writes ∧ d.Writes ≤ 1000000000
    · by_cases hS : -1 ≤ d.Stop ∧ d.Stop ≤ 1000000000
      · simp [hB.1, hB.2, hW.1, hW.2, hS.1, hS.2]
        by_cases hl : 120 < d.Files.length
        · rw [if_pos (by omega)]
          exact ⟨2, rfl, by simp⟩
        · rw [if_neg (by omega)]
          obtain ⟨t, e, ht⟩ := loop_up (b := spec_DiskFault_l1b d) (fun i s => s = (i : Int) ∧ (∀ j, (hj : j < d.Files.length) → j < i → pathOk d.Files[j].Path ∧ d.Files[j].Data.length ≤ 4000) ∧ ∀ j, (hj : j + 1 < d.Files.length) → j + 1 < i → slt d.Files[j].Path d.Files[j + 1].Path = true) d.Files.length
            (fun t => match t with | .ret r => r ≠ 0 | .nxt _ => (∀ f ∈ d.Files, pathOk f.Path ∧ f.Data.length ≤ 4000) ∧ d.Files.Pairwise (fun f g => slt f.Path g.Path = true)) (by
            rintro i s hi ⟨rfl, h1, h2⟩
            unfold spec_DiskFault_l1b
            rw [if_pos (by simp; omega)]
            obtain ⟨r, hr, hr2⟩ := PathFault_some d.Files[i].Path
            simp only [idx_nat hi, Option.bind_some, hr]
            by_cases hr0 : r = 0
            · subst hr0
              rw [if_neg (by simp)]
              have key : ∃ q, (if decide ((i : Int) > 0) then (idx d.Files (w64 ((i : Int) - 1))).bind fun x39 => some (slt d.Files[i].Path x39.Path || seq d.Files[i].Path x39.Path) else some false) = some q ∧ (q = false → ∀ j, (hj : j + 1 < d.Files.length) → j + 1 < i + 1 → slt d.Files[j].Path d.Files[j + 1].Path = true) := by
                by_cases hp : i = 0
                · subst hp
                  exact ⟨false, by simp, fun _ j hj hji => by omega⟩
                · rw [if_pos (by simp; omega), w64_of (by omega) (by omega), show ((i : Int) - 1) = ((i - 1 : Nat) : Int) by omega, idx_nat (show i - 1 < d.Files.length by omega)]
                  refine ⟨_, rfl, fun hq j hj hji => ?_⟩
                  rcases Nat.lt_or_ge (j + 1) i with hlt | hge
                  · exact h2 j hj hlt
                  · have hj1 : j + 1 = i := by omega
                    subst hj1
                    simp only [Bool.or_eq_false_iff] at hq
                    have hq1 := hq.1
                    have hq2 : d.Files[j + 1].Path ≠ d.Files[j].Path := fun e => by
                      have := hq.2
                      simp only [Nat.add_sub_cancel] at this
                      rw [e] at this
                      simp at this
                    simp only [Nat.add_sub_cancel] at hq1
                    exact slt_tri hq1 hq2
              obtain ⟨q, hq, hq2⟩ := key
              rw [hq]
              simp only [Option.bind_some]
              cases q with
              | true => exact .inr ⟨_, rfl, by simp⟩
              | false =>
                by_cases hd : (d.Files[i].Data.length : Int) > 4000
                · exact .inr ⟨.ret 2, by rw [if_neg (by simp), if_pos (by simpa using hd)], by simp⟩
                · refine .inl ⟨((i + 1 : Nat) : Int), ?_, rfl, fun j hj hji => ?_, hq2 rfl⟩
                  · rw [if_neg (by simp), if_neg (by simpa using hd), w64_nat (by omega)]
                  · rcases Nat.lt_or_ge j i with h' | h'
                    · exact h1 j hj h'
                    · have : j = i := by omega
                      subst this
                      exact ⟨hr2.1 rfl, by omega⟩
            · rw [if_pos (by simpa using hr0)]
              exact .inr ⟨_, rfl, hr0⟩) (by
            rintro s ⟨rfl, h1, h2⟩
            unfold spec_DiskFault_l1b
            rw [if_neg (by simp)]
            refine ⟨_, rfl, fun f hf => ?_, sorted_of (fun i hi => h2 i hi hi)⟩
            obtain ⟨j, hj, rfl⟩ := List.getElem_of_mem hf
            exact h1 j hj hj) d.Files.length 0 0 (by omega) ⟨rfl, fun j _ h => by omega, fun j _ h => by omega⟩
          simp only [spec_DiskFault_l1, e, Option.bind_some]
          cases t with
          | ret r => exact ⟨r, rfl, fun h => absurd h ht⟩
          | nxt u =>
            simp only [Fl.go]
            rw [l7Total_eq d h (fun f hf => by have := (ht.1 f hf).2; omega)]
            simp only [Option.bind_some]
            by_cases hr : d.Budget < total d.Files
            · rw [if_pos hr]
              exact ⟨8, rfl, by simp⟩
            · rw [if_neg hr]
              exact ⟨0, rfl, fun _ => ⟨hB.1, hB.2, hW.1, hW.2, hS.1, hS.2, by omega, fun f hf => (ht.1 f hf).1, fun f hf => (ht.1 f hf).2, ht.2, by omega⟩⟩
      · refine ⟨3, ?_, by simp⟩
        simp [hB.1, hB.2, hW.1, hW.2]
        intro a b
        exact absurd ⟨a, b⟩ hS
    · refine ⟨3, ?_, by simp⟩
      simp [hB.1, hB.2]
      rw [if_pos (by omega)]
      rfl
  · refine ⟨3, ?_, by simp⟩
    rw [if_pos (by simp; omega)]
    rfl

def begins (s p : ByteArray) : Bool := decide (p.size ≤ s.size) && seq (s.extract 0 p.size) p

/-! ### Where a file stands -/
theorem cmp_less : ∀ (a b : List UInt8), (Lib.compareBytes a b < 0 ↔ Op.bytesLess a b = true) ∧ (Lib.compareBytes a b = 0 ↔ a = b)
  | [], [] => by simp [Lib.compareBytes, Op.bytesLess]
  | [], _ :: _ => by simp [Lib.compareBytes, Op.bytesLess]
  | _ :: _, [] => by simp [Lib.compareBytes, Op.bytesLess]
  | x :: a, y :: b => by
    obtain ⟨ih1, ih2⟩ := cmp_less a b
    simp only [Lib.compareBytes, Op.bytesLess]
    by_cases h1 : x < y
    · simp [h1]
      intro e; subst e; exact absurd h1 (by simp [UInt8.lt_irrefl])
    · by_cases h2 : y < x
      · simp [h1, h2]
        have hne : x ≠ y := fun e => by subst e; exact absurd h2 (by simp [UInt8.lt_irrefl])
        simp [hne]
      · have e : x = y := by
          rw [UInt8.lt_iff_toNat_lt] at h1 h2
          exact UInt8.toNat_inj.1 (by omega)
        subst e
        simp [UInt8.lt_irrefl, ih1, ih2]

theorem cmpB_lt (a b : ByteArray) : cmpB a b < 0 ↔ slt a b = true := by
  unfold cmpB slt
  rw [ByteArray.toList_eq, ByteArray.toList_eq]
  exact (cmp_less _ _).1

theorem cmpB_eq (a b : ByteArray) : cmpB a b = 0 ↔ a = b := by
  unfold cmpB
  rw [(cmp_less _ _).2, ← ByteArray.toList_eq, ← ByteArray.toList_eq]
  exact ⟨toList_inj, fun e => by rw [e]⟩

theorem half_eq {i j : Int} (h0 : 0 ≤ i) (h1 : i ≤ j) (h2 : j ≤ 4611686018427387903) : w64 ((IntKind.u64.wrap (w64 (i + j))).fdiv (2 ^ (min (1 : Int).toNat 64))) = (i + j) / 2 := by
  rw [w64_of (x := i + j) (by omega) (by omega)]
  have e1 : IntKind.u64.wrap (i + j) = i + j := by
    simp only [IntKind.wrap, IntKind.signed, IntKind.bits]
    simp
    omega
  rw [e1]
  have e2 : ((2 : Int) ^ (min (1 : Int).toNat 64)) = 2 := by decide
  rw [e2, Int.fdiv_eq_ediv_of_nonneg _ (by omega)]
  exact w64_of (by omega) (by omega)

theorem place_1_eq (f : File) (p : ByteArray) : impl_Disk_place_1 f p = some (cmpB f.Path p) := rfl

theorem place_some (fs : List File) (p : ByteArray) (h : fs.length ≤ 1048576) :
    ∃ (k : Nat) (b : Bool), slices_BinarySearchFunc_LimplFile_impl_Disk_place_1 fs p = some ((k : Int), b) ∧ k ≤ fs.length ∧ (b = true → ∃ hk : k < fs.length, fs[k].Path = p) ∧
      (fs.Pairwise (fun f g => slt f.Path g.Path = true) → (∀ i, (hi : i < fs.length) → i < k → slt fs[i].Path p = true) ∧ (∀ i, (hi : i < fs.length) → k ≤ i → slt fs[i].Path p = false) ∧ (b = false → ∀ f ∈ fs, f.Path ≠ p)) := by
  obtain ⟨t, e, k, rfl, hk, hs⟩ := loop_meas (b := slices_BinarySearchFunc_LimplFile_impl_Disk_place_1_l1b fs p)
    (fun s => ∃ i j : Nat, s = ((i : Int), (j : Int)) ∧ i ≤ j ∧ j ≤ fs.length ∧ (fs.Pairwise (fun f g => slt f.Path g.Path = true) → (∀ q, (hq : q < fs.length) → q < i → slt fs[q].Path p = true) ∧ (∀ q, (hq : q < fs.length) → j ≤ q → slt fs[q].Path p = false)))
    (fun s => (s.2 - s.1).toNat)
    (fun t => ∃ k : Nat, t = (k : Int) ∧ k ≤ fs.length ∧ (fs.Pairwise (fun f g => slt f.Path g.Path = true) → (∀ q, (hq : q < fs.length) → q < k → slt fs[q].Path p = true) ∧ (∀ q, (hq : q < fs.length) → k ≤ q → slt fs[q].Path p = false))) (by
    rintro s ⟨i, j, rfl, hij, hj, hP⟩
    unfold slices_BinarySearchFunc_LimplFile_impl_Disk_place_1_l1b
    by_cases hlt : i < j
    · left
      rw [if_pos (by simp; omega)]
      simp only
      rw [half_eq (by omega) (by omega) (by omega)]
      have hm : (((i : Int) + (j : Int)) / 2) = (((i + j) / 2 : Nat) : Int) := by omega
      rw [hm]
      have hmj : (i + j) / 2 < j := by omega
      have him : i ≤ (i + j) / 2 := by omega
      generalize (i + j) / 2 = m at *
      have hmn : m < fs.length := by omega
      simp only [idx_nat hmn, Option.bind_some, place_1_eq]
      by_cases hc : cmpB fs[m].Path p < 0
      · rw [if_pos (by simpa using hc), w64_nat (by omega)]
        refine ⟨_, rfl, ⟨m + 1, j, rfl, by omega, hj, fun hso => ?_⟩, by simp; omega⟩
        obtain ⟨g1, g2⟩ := hP hso
        refine ⟨fun q hq hqm => ?_, g2⟩
        have hl := (cmpB_lt _ _).1 hc
        rcases Nat.lt_or_ge q m with h' | h'
        · exact slt_trans (List.pairwise_iff_getElem.1 hso q m hq hmn h') hl
        · have : q = m := by omega
          subst this; exact hl
      · rw [if_neg (by simpa using hc)]
        refine ⟨_, rfl, ⟨i, m, rfl, by omega, by omega, fun hso => ?_⟩, by simp; omega⟩
        obtain ⟨g1, g2⟩ := hP hso
        refine ⟨g1, fun q hq hmq => ?_⟩
        have hl : slt fs[m].Path p = false := by
          cases h' : slt fs[m].Path p with
          | false => rfl
          | true => exact absurd ((cmpB_lt _ _).2 h') hc
        rcases Nat.lt_or_ge m q with h' | h'
        · cases hq2 : slt fs[q].Path p with
          | false => rfl
          | true =>
            have := slt_trans (List.pairwise_iff_getElem.1 hso m q hmn hq h') hq2
            rw [hl] at this; cases this
        · have : q = m := by omega
          subst this; exact hl
    · right
      rw [if_neg (by simp; omega)]
      have : i = j := by omega
      subst this
      exact ⟨_, rfl, i, rfl, by omega, hP⟩) fs.length (0, (fs.length : Int)) (by simp) ⟨0, fs.length, rfl, by omega, by omega, fun _ => ⟨fun q _ h => by omega, fun q hq h => by omega⟩⟩
  unfold slices_BinarySearchFunc_LimplFile_impl_Disk_place_1
  rw [show slices_BinarySearchFunc_LimplFile_impl_Disk_place_1_l1 fs p (0, (fs.length : Int)) = some (k : Int) from e]
  simp only [Option.bind_some]
  by_cases hkn : k < fs.length
  · rw [if_pos (by simpa using hkn)]
    simp only [idx_nat hkn, Option.bind_some, place_1_eq]
    refine ⟨k, _, rfl, hk, fun hb => ⟨hkn, (cmpB_eq _ _).1 (by simpa using hb)⟩, fun hso => ⟨(hs hso).1, (hs hso).2, fun hb f hf hfp => ?_⟩⟩
    have hne : cmpB fs[k].Path p ≠ 0 := by simpa using hb
    obtain ⟨q, hq, rfl⟩ := List.getElem_of_mem hf
    rcases Nat.lt_trichotomy q k with h' | h' | h'
    · have := (hs hso).1 q hq h'
      rw [hfp, slt_irrefl] at this; cases this
    · subst h'; exact hne ((cmpB_eq _ _).2 hfp)
    · have h1 := List.pairwise_iff_getElem.1 hso k q hkn hq h'
      have h2 := (hs hso).2 k hkn (Nat.le_refl _)
      rw [hfp] at h1
      rw [h1] at h2; cases h2
  · rw [if_neg (by simpa using hkn)]
    refine ⟨k, false, rfl, hk, (fun hb => by cases hb), fun hso => ⟨(hs hso).1, (hs hso).2, fun _ f hf hfp => ?_⟩⟩
    obtain ⟨q, hq, rfl⟩ := List.getElem_of_mem hf
    have := (hs hso).1 q hq (by omega)
    rw [hfp, slt_irrefl] at this; cases this

/-- What the reference finds. -/
theorem l7Find_some (d : Disk) (p : ByteArray) (h : d.Files.length ≤ 1048576) :
    (∃ k : Nat, ∃ hk : k < d.Files.length, spec_l7Find d p = some (k : Int) ∧ d.Files[k].Path = p) ∨ (spec_l7Find d p = some (-1) ∧ ∀ f ∈ d.Files, f.Path ≠ p) := by
  obtain ⟨t, e, ht⟩ := loop_up (b := spec_l7Find_l1b d p) (fun i s => s = (i : Int) ∧ ∀ q, (hq : q < d.Files.length) → q < i → d.Files[q].Path ≠ p) d.Files.length
    (fun t => match t with | .ret r => ∃ k : Nat, ∃ hk : k < d.Files.length, r = (k : Int) ∧ d.Files[k].Path = p | .nxt _ => ∀ f ∈ d.Files, f.Path ≠ p) (by
    rintro i s hi ⟨rfl, hq⟩
    unfold spec_l7Find_l1b
    rw [if_pos (by simp; omega)]
    simp only [idx_nat hi, Option.bind_some]
    by_cases hp : d.Files[i].Path = p
    · rw [if_pos (seq_iff.2 hp)]
      exact .inr ⟨_, rfl, i, hi, rfl, hp⟩
    · rw [if_neg (fun h' => hp (seq_iff.1 h')), w64_nat (by omega)]
      refine .inl ⟨_, rfl, rfl, fun q hq' hqi => ?_⟩
      rcases Nat.lt_or_ge q i with h' | h'
      · exact hq q hq' h'
      · have : q = i := by omega
        subst this; exact hp) (by
    rintro s ⟨rfl, hq⟩
    unfold spec_l7Find_l1b
    rw [if_neg (by simp)]
    refine ⟨_, rfl, fun f hf => ?_⟩
    obtain ⟨q, hq', rfl⟩ := List.getElem_of_mem hf
    exact hq q hq' hq') d.Files.length 0 0 (by omega) ⟨rfl, fun q _ h => by omega⟩
  unfold spec_l7Find
  rw [show spec_l7Find_l1 d p 0 = some t from e]
  cases t with
  | ret r =>
    obtain ⟨k, hk, rfl, hp⟩ := ht
    exact .inl ⟨k, hk, rfl, hp⟩
  | nxt _ => exact .inr ⟨rfl, ht⟩

theorem sorted_inj {fs : List File} (hs : fs.Pairwise (fun f g => slt f.Path g.Path = true)) {i j : Nat} (hi : i < fs.length) (hj : j < fs.length) (h : fs[i].Path = fs[j].Path) : i = j := by
  rcases Nat.lt_trichotomy i j with h' | h' | h'
  · have := List.pairwise_iff_getElem.1 hs i j hi hj h'
    rw [h, slt_irrefl] at this; cases this
  · exact h'
  · have := List.pairwise_iff_getElem.1 hs j i hj hi h'
    rw [h, slt_irrefl] at this; cases this

/-- Both find the same on a disk that is right. -/
theorem find_both (d : Disk) (p : ByteArray) (hg : d.good) :
    (∃ k : Nat, ∃ hk : k < d.Files.length, spec_l7Find d p = some (k : Int) ∧ slices_BinarySearchFunc_LimplFile_impl_Disk_place_1 d.Files p = some ((k : Int), true) ∧ d.Files[k].Path = p) ∨
      (spec_l7Find d p = some (-1) ∧ (∀ f ∈ d.Files, f.Path ≠ p) ∧ ∃ k : Nat, slices_BinarySearchFunc_LimplFile_impl_Disk_place_1 d.Files p = some ((k : Int), false) ∧ k ≤ d.Files.length ∧ (∀ i, (hi : i < d.Files.length) → i < k → slt d.Files[i].Path p = true) ∧ (∀ i, (hi : i < d.Files.length) → k ≤ i → slt d.Files[i].Path p = false)) := by
  have hl : d.Files.length ≤ 1048576 := by have := hg.len; omega
  obtain ⟨k, b, e, hk, h1, h2⟩ := place_some d.Files p hl
  obtain ⟨g1, g2, g3⟩ := h2 hg.sorted
  rcases l7Find_some d p hl with ⟨q, hq, e2, hp⟩ | ⟨e2, hp⟩
  · left
    cases b with
    | false => exact absurd hp (g3 rfl _ (List.getElem_mem hq))
    | true =>
      obtain ⟨hk', hp'⟩ := h1 rfl
      have : q = k := sorted_inj hg.sorted hq hk' (by rw [hp, hp'])
      subst this
      exact ⟨q, hq, e2, e, hp⟩
  · right
    cases b with
    | true =>
      obtain ⟨hk', hp'⟩ := h1 rfl
      exact absurd hp' (hp _ (List.getElem_mem hk'))
    | false => exact ⟨e2, hp, k, e, hk, g1, g2⟩

theorem data_both (d : Disk) (p : ByteArray) (hg : d.good) :
    (∃ k : Nat, ∃ hk : k < d.Files.length, spec_l7Find d p = some (k : Int) ∧ impl_Disk_data d p = some (d.Files[k].Data, true) ∧ d.Files[k].Path = p) ∨
      (spec_l7Find d p = some (-1) ∧ impl_Disk_data d p = some ([], false) ∧ ∀ f ∈ d.Files, f.Path ≠ p) := by
  rcases find_both d p hg with ⟨k, hk, e1, e2, hp⟩ | ⟨e1, hp, k, e2, _⟩
  · left
    refine ⟨k, hk, e1, ?_, hp⟩
    unfold impl_Disk_data impl_Disk_place
    rw [e2]
    simp only [Option.bind_some, Bool.not_true, Bool.false_eq_true, if_false, idx_nat hk]
  · right
    refine ⟨e1, ?_, hp⟩
    unfold impl_Disk_data impl_Disk_place
    rw [e2]
    rfl

/-! ### Numbers in decimal -/
theorem list_rev {P : List Int → Prop} (h0 : P []) (h1 : ∀ l c, P l → P (l ++ [c])) (l : List Int) : P l := by
  have key : ∀ m : List Int, P m.reverse := by
    intro m
    induction m with
    | nil => exact h0
    | cons c m ih => rw [List.reverse_cons]; exact h1 _ c ih
  have := key l.reverse
  rwa [List.reverse_reverse] at this

def digB (c : Int) : Bool := decide (c ≥ 48) && decide (c ≤ 57)

def val (l : List Int) : Int := l.foldl (fun a c => a * 10 + (c - 48)) 0

theorem val_snoc (l : List Int) (c : Int) : val (l ++ [c]) = val l * 10 + (c - 48) := by simp [val]

theorem val_bound {l : List Int} (h : ∀ c ∈ l, digB c = true) : 0 ≤ val l ∧ val l < 10 ^ l.length := by
  revert h
  refine list_rev (P := fun l => (∀ c ∈ l, digB c = true) → 0 ≤ val l ∧ val l < 10 ^ l.length) ?_ ?_ l
  · intro _; simp [val]
  · intro l c ih h
    obtain ⟨h1, h2⟩ := ih (fun x hx => h x (by simp [hx]))
    have hc := h c (by simp)
    simp only [digB, Bool.and_eq_true, decide_eq_true_eq] at hc
    rw [val_snoc, List.length_append, List.length_singleton, Int.pow_succ]
    omega

/-- Digits, so many at most, as a number. -/
def numL (l : List Int) (most : Int) : Option Int := if l.length < 1 ∨ (l.length : Int) > most ∨ ¬ (∀ c ∈ l, digB c = true) then none else some (val l)

theorem pow_le18 {n : Nat} (h : n ≤ 17) : (10 : Int) ^ n ≤ 100000000000000000 := by
  have : (10 : Nat) ^ n ≤ 10 ^ 17 := Nat.pow_le_pow_right (by omega) h
  have e : ((10 ^ n : Nat) : Int) = (10 : Int) ^ n := by simp
  rw [← e]
  omega

theorem spec_l1Digit_eq (c : Int) : spec_l1Digit c = some (digB c) := by
  unfold spec_l1Digit digB
  cases decide (c ≥ 48) <;> rfl

theorem l1Number_eq (s : ByteArray) (most : Int) (hm : most ≤ 17) : spec_l1Number s most = some (match numL (bl s) most with | some n => (n, true) | none => (0, false)) := by
  unfold spec_l1Number numL
  have hl := bl_length s
  by_cases h1 : s.size < 1
  · rw [if_pos (by simp; omega), if_pos (by omega)]
    rfl
  · rw [if_neg (by simp; omega)]
    simp only [Option.bind_some]
    by_cases h2 : (s.size : Int) > most
    · rw [if_pos (by simpa using h2), if_pos (by omega)]
    · rw [if_neg (by simpa using h2)]
      obtain ⟨t, e, ht⟩ := loop_up (b := spec_l1Number_l1b s) (fun i q => q = (val ((bl s).take i), (i : Int)) ∧ ∀ c ∈ (bl s).take i, digB c = true) (bl s).length
        (fun t => match t with | .ret r => r = (0, false) ∧ ¬ ∀ c ∈ bl s, digB c = true | .nxt v => v = val (bl s) ∧ ∀ c ∈ bl s, digB c = true) (by
        rintro i q hi ⟨rfl, hd⟩
        have hb := val_bound hd
        have hlen : ((bl s).take i).length ≤ 17 := by simp; omega
        have hp := pow_le18 hlen
        have hr := bl_range _ (List.getElem_mem hi)
        unfold spec_l1Number_l1b
        rw [if_pos (by simp; omega)]
        simp only [bidx_nat hi, Option.bind_some, spec_l1Digit_eq]
        cases hc : digB (bl s)[i] with
        | false => exact .inr ⟨_, rfl, rfl, fun h => by have := h _ (List.getElem_mem hi); rw [hc] at this; cases this⟩
        | true =>
          have hc' := hc
          simp only [digB, Bool.and_eq_true, decide_eq_true_eq] at hc'
          rw [wrap_u8 (by omega) (by omega), w64_of (x := (bl s)[i] - 48) (by omega) (by omega), w64_of (x := val ((bl s).take i) * 10) (by omega) (by omega), w64_of (by omega) (by omega), w64_nat (by omega)]
          refine .inl ⟨_, rfl, by rw [List.take_succ_eq_append_getElem hi, val_snoc], fun c hcm => ?_⟩
          rw [List.take_succ_eq_append_getElem hi] at hcm
          rcases List.mem_append.1 hcm with h | h
          · exact hd c h
          · simp at h; rw [h]; exact hc) (by
        rintro q ⟨rfl, hd⟩
        unfold spec_l1Number_l1b
        rw [if_neg (by simp; omega)]
        rw [List.take_length] at hd ⊢
        exact ⟨_, rfl, rfl, hd⟩) (bl s).length 0 (0, 0) (by omega) ⟨by simp [val], by simp⟩
      unfold spec_l1Number_l1
      rw [e]
      cases t with
      | ret r =>
        obtain ⟨rfl, h⟩ := ht
        rw [if_pos (.inr (.inr h))]
        rfl
      | nxt v =>
        obtain ⟨rfl, h⟩ := ht
        rw [if_neg (fun h' => by rcases h' with h' | h' | h' <;> first | omega | exact h' h)]
        rfl

theorem number_eq (s : ByteArray) (most : Int) (hm : most ≤ 17) : impl_number s most = some (match numL (bl s) most with | some n => n | none => -1) := by
  unfold impl_number numL
  have hl := bl_length s
  have he : seq s (bs []) = decide (s.size < 1) := by
    rw [seq_bl, bl_bs, List.map_nil]
    rw [Bool.eq_iff_iff]
    simp only [decide_eq_true_eq]
    constructor
    · intro h; rw [h] at hl; simp at hl; omega
    · intro h; exact List.eq_nil_of_length_eq_zero (by omega)
  rw [he]
  by_cases h1 : s.size < 1
  · rw [if_pos (by simpa using h1), if_pos (by omega)]
    rfl
  · rw [if_neg (by simpa using h1)]
    simp only [Option.bind_some]
    by_cases h2 : (s.size : Int) > most
    · rw [if_pos (by simpa using h2), if_pos (by omega)]
    · rw [if_neg (by simpa using h2)]
      obtain ⟨t, e, ht⟩ := loop_up (b := impl_number_l1b s) (fun i q => q = (val ((bl s).take i), (i : Int)) ∧ ∀ c ∈ (bl s).take i, digB c = true) (bl s).length
        (fun t => match t with | .ret r => r = -1 ∧ ¬ ∀ c ∈ bl s, digB c = true | .nxt v => v = val (bl s) ∧ ∀ c ∈ bl s, digB c = true) (by
        rintro i q hi ⟨rfl, hd⟩
        have hb := val_bound hd
        have hlen : ((bl s).take i).length ≤ 17 := by simp; omega
        have hp := pow_le18 hlen
        have hr := bl_range _ (List.getElem_mem hi)
        unfold impl_number_l1b
        rw [if_pos (by simp; omega)]
        simp only [bidx_nat hi, Option.bind_some]
        have hq : (if decide ((bl s)[i] < 48) = true then some true else some (decide ((bl s)[i] > 57))) = some (!digB (bl s)[i]) := by
          unfold digB
          by_cases a : (bl s)[i] < 48
          · have b : ¬ ((bl s)[i] ≥ 48) := by omega
            simp [a, b]
          · have b : (bl s)[i] ≥ 48 := by omega
            by_cases c : (bl s)[i] > 57
            · have d : ¬ ((bl s)[i] ≤ 57) := by omega
              simp [a, b, c, d]
            · have d : (bl s)[i] ≤ 57 := by omega
              simp [a, b, c, d]
        rw [hq]
        simp only [Option.bind_some]
        cases hc : digB (bl s)[i] with
        | false => exact .inr ⟨_, rfl, rfl, fun h => by have := h _ (List.getElem_mem hi); rw [hc] at this; cases this⟩
        | true =>
          have hc' := hc
          simp only [digB, Bool.and_eq_true, decide_eq_true_eq] at hc'
          rw [wrap_u8 (by omega) (by omega), w64_of (x := (bl s)[i] - 48) (by omega) (by omega), w64_of (x := 10 * val ((bl s).take i)) (by omega) (by omega), w64_of (by omega) (by omega), w64_nat (by omega)]
          refine .inl ⟨_, rfl, by rw [List.take_succ_eq_append_getElem hi, val_snoc, Int.mul_comm], fun c hcm => ?_⟩
          rw [List.take_succ_eq_append_getElem hi] at hcm
          rcases List.mem_append.1 hcm with h | h
          · exact hd c h
          · simp at h; rw [h]; exact hc) (by
        rintro q ⟨rfl, hd⟩
        unfold impl_number_l1b
        rw [if_neg (by simp; omega)]
        rw [List.take_length] at hd ⊢
        exact ⟨_, rfl, rfl, hd⟩) (bl s).length 0 (0, 0) (by omega) ⟨by simp [val], by simp⟩
      unfold impl_number_l1
      rw [e]
      cases t with
      | ret r =>
        obtain ⟨rfl, h⟩ := ht
        rw [if_pos (.inr (.inr h))]
        rfl
      | nxt v =>
        obtain ⟨rfl, h⟩ := ht
        rw [if_neg (fun h' => by rcases h' with h' | h' | h' <;> first | omega | exact h' h)]
        rfl

theorem bl_b2s {l : List Int} (h : ∀ c ∈ l, 0 ≤ c ∧ c ≤ 255) : bl (b2s l) = l := by
  refine (list_rev (P := fun l => (∀ c ∈ l, 0 ≤ c ∧ c ≤ 255) → bl (b2s l) = l) ?_ ?_ l) h
  · intro _; exact bl_bs []
  · intro l c ih h
    have e : b2s (l ++ [c]) = b2s l ++ b2s [c] := by
      unfold b2s
      rw [List.foldl_append]
      generalize List.foldl (fun r n => ByteArray.push r (UInt8.ofNat n.toNat)) ByteArray.empty l = x
      simp only [List.foldl_cons, List.foldl_nil]
      generalize UInt8.ofNat c.toNat = u
      apply toList_inj
      rw [ByteArray.toList_eq, ByteArray.toList_eq]
      simp
    rw [e, bl_append, ih (fun x hx => h x (by simp [hx])), bl_b2s1 (h c (by simp)).1 (h c (by simp)).2]

theorem find_of {fs : List File} {p : ByteArray} {k : Nat} (hs : fs.Pairwise (fun f g => slt f.Path g.Path = true)) (hk : k < fs.length) (hp : fs[k].Path = p) : fs.find? (fun f => decide (f.Path = p)) = some fs[k] := by
  rw [List.find?_eq_some_iff_getElem]
  refine ⟨by simp [hp], k, hk, rfl, fun j hj => ?_⟩
  simp only [Bool.not_eq_eq_eq_not, Bool.not_true, decide_eq_false_iff_not]
  intro e
  have := sorted_inj hs (by omega) hk (e.trans hp.symm)
  omega

theorem find_none {fs : List File} {p : ByteArray} (h : ∀ f ∈ fs, f.Path ≠ p) : fs.find? (fun f => decide (f.Path = p)) = none := by
  rw [List.find?_eq_none]
  intro f hf
  simpa using h f hf

/-! ### Names, versions, terms -/
def letB (c : Int) : Bool := decide (97 ≤ c) && decide (c ≤ 122)

def digitB (c : Int) : Bool := decide (48 ≤ c) && decide (c ≤ 57)

def namB (c : Int) : Bool := letB c || (digitB c || c == 95)

theorem l1Letter_eq (c : Int) : spec_l1Letter c = some (letB c) := by
  unfold spec_l1Letter letB
  by_cases h : c ≥ 97 <;> simp [h]

theorem l1Digit_eq (c : Int) : spec_l1Digit c = some (digitB c) := by
  unfold spec_l1Digit digitB
  by_cases h : c ≥ 48 <;> simp [h]

theorem l1Name_eq (c : Int) : spec_l1Name c = some (namB c) := by
  unfold spec_l1Name namB
  simp only [l1Letter_eq, l1Digit_eq, Option.bind_some]
  cases letB c <;> cases digitB c <;> simp

theorem isNameByte_eq (c : Int) : impl_isNameByte c = some (namB c) := by
  unfold impl_isNameByte namB letB digitB
  by_cases h1 : c ≥ 97 <;> by_cases h2 : c ≤ 122 <;> by_cases h3 : c ≥ 48 <;> by_cases h4 : c ≤ 57 <;> simp [h1, h2, h3, h4]

def nameScan (s : ByteArray) : Int := (scanL (fun _ c => if namB c then none else some (5 : Int)) 0 (bl s)).getD 0

/-- What is wrong with a name. -/
def NF (s : ByteArray) : Int := if s.size < 1 then 5 else if s.size > 12 then 5 else if letB ((bl s).headD 0) then nameScan s else 5

theorem bl_head {s : ByteArray} (h : 1 ≤ s.size) : bidx s 0 = some ((bl s).headD 0) := by
  have h' : 0 < (bl s).length := by rw [bl_length]; exact h
  have e := bidx_nat (s := s) (i := 0) h'
  rw [show ((0 : Nat) : Int) = 0 from rfl] at e
  rw [e]
  have : (bl s)[0]? = some ((bl s).headD 0) := by
    cases hb : bl s with
    | nil => rw [hb] at h'; simp at h'
    | cons c l => rfl
  rw [List.getElem?_eq_getElem h'] at this
  exact this

theorem spec_nameLoop (s : ByteArray) (h : s.size ≤ 12) : spec_NameFault_l1 s 0 = some (frs (scanL (fun _ c => if namB c then none else some (5 : Int)) 0 (bl s))) := by
  unfold spec_NameFault_l1
  refine loop_scan (bl s) _ (fun i hi => ?_) ?_
  · have hs : i < s.size := by rw [← bl_length]; exact hi
    unfold spec_NameFault_l1b
    rw [if_pos (by simp; omega), bidx_nat hi]
    simp only [Option.bind_some, l1Name_eq]
    rw [w64_nat (by omega)]
    cases namB (bl s)[i] <;> rfl
  · unfold spec_NameFault_l1b
    rw [if_neg (by rw [bl_length]; simp)]

theorem impl_nameLoop (s : ByteArray) (h : s.size ≤ 12) : impl_NameFault_l1 s 0 = some (frs (scanL (fun _ c => if namB c then none else some (5 : Int)) 0 (bl s))) := by
  unfold impl_NameFault_l1
  refine loop_scan (bl s) _ (fun i hi => ?_) ?_
  · have hs : i < s.size := by rw [← bl_length]; exact hi
    unfold impl_NameFault_l1b
    rw [if_pos (by simp; omega), bidx_nat hi]
    simp only [Option.bind_some, isNameByte_eq]
    rw [w64_nat (by omega)]
    cases namB (bl s)[i] <;> rfl
  · unfold impl_NameFault_l1b
    rw [if_neg (by rw [bl_length]; simp)]

theorem NameFault_spec (s : ByteArray) : spec_NameFault s = some (NF s) := by
  unfold spec_NameFault NF
  by_cases h1 : s.size < 1
  · rw [if_pos (show decide ((s.size : Int) < 1) = true by rw [decide_eq_true_eq]; omega), if_pos h1]; rfl
  rw [if_neg (show ¬ decide ((s.size : Int) < 1) = true by rw [decide_eq_true_eq]; omega), if_neg h1]
  by_cases h2 : s.size > 12
  · rw [if_pos (show decide ((s.size : Int) > 12) = true by rw [decide_eq_true_eq]; omega), if_pos h2]; rfl
  rw [if_neg (show ¬ decide ((s.size : Int) > 12) = true by rw [decide_eq_true_eq]; omega), if_neg h2, bl_head (by omega), spec_nameLoop s (by omega)]
  simp only [Option.bind_some, l1Letter_eq]
  cases h3 : letB ((bl s).headD 0)
  · rfl
  · unfold nameScan
    cases scanL (fun _ c => if namB c then none else some (5 : Int)) 0 (bl s) <;> rfl

theorem headTest (c : Int) : (if decide (c < 97) = true then some true else some (decide (c > 122))) = some (!(letB c)) := by
  unfold letB
  by_cases h3 : c < 97
  · rw [if_pos (by rw [decide_eq_true_eq]; exact h3)]
    have : decide (97 ≤ c) = false := by rw [decide_eq_false_iff_not]; omega
    rw [this]; rfl
  · rw [if_neg (by rw [decide_eq_true_eq]; exact h3)]
    have : decide (97 ≤ c) = true := by rw [decide_eq_true_eq]; omega
    rw [this]
    congr 1
    rw [Bool.true_and, Bool.eq_iff_iff]
    simp

theorem NameFault_impl (s : ByteArray) : impl_NameFault s = some (NF s) := by
  unfold impl_NameFault NF
  by_cases h1 : s.size < 1
  · rw [if_pos (show decide ((s.size : Int) < 1) = true by rw [decide_eq_true_eq]; omega), if_pos h1]; rfl
  rw [if_neg (show ¬ decide ((s.size : Int) < 1) = true by rw [decide_eq_true_eq]; omega), if_neg h1]
  by_cases h2 : s.size > 12
  · rw [if_pos (show decide ((s.size : Int) > 12) = true by rw [decide_eq_true_eq]; omega), if_pos h2]; rfl
  rw [if_neg (show ¬ decide ((s.size : Int) > 12) = true by rw [decide_eq_true_eq]; omega), if_neg h2, bl_head (by omega), impl_nameLoop s (by omega)]
  simp only [Option.bind_some, headTest]
  cases h3 : letB ((bl s).headD 0)
  · rfl
  · unfold nameScan
    cases scanL (fun _ c => if namB c then none else some (5 : Int)) 0 (bl s) <;> rfl

/-- What is wrong with a version. -/
def VF (v : Version) : Int := if inB v.A 0 999 && inB v.B 0 999 && inB v.C 0 999 then 0 else 3

theorem VersionFault_spec (v : Version) : spec_VersionFault v = some (VF v) := by
  unfold spec_VersionFault VF
  simp only [l1In_eq, Option.bind_some]
  cases inB v.A 0 999 <;> cases inB v.B 0 999 <;> cases inB v.C 0 999 <;> rfl

theorem VersionFault_impl (v : Version) : impl_VersionFault v = some (VF v) := by
  unfold impl_VersionFault VF
  simp only [within_eq, Option.bind_some]
  cases inB v.A 0 999 <;> cases inB v.B 0 999 <;> cases inB v.C 0 999 <;> rfl

def sgn (a b : Int) : Int := if a < b then -1 else if a > b then 1 else 0

theorem l1Sign_eq (a b : Int) : spec_l1Sign a b = some (sgn a b) := by
  unfold spec_l1Sign sgn
  by_cases h : a < b
  · simp [h]
  · by_cases h2 : a > b <;> simp [h, h2]

theorem cmp_eq (a b : Int) : cmp_Compare_int64 a b = some (sgn a b) := by
  unfold cmp_Compare_int64 cmp_isNaN_int64 sgn
  simp only [Option.bind_some, bne_self_eq_false, Bool.false_eq_true, if_false]
  by_cases h : a < b
  · simp [h]
  · by_cases h2 : a > b <;> simp [h, h2]

/-- Versions in order. -/
def cmpV (a b : Version) : Int := if sgn a.A b.A ≠ 0 then sgn a.A b.A else if sgn a.B b.B ≠ 0 then sgn a.B b.B else sgn a.C b.C

theorem CompareVersions_spec (a b : Version) : spec_CompareVersions a b = some (cmpV a b) := by
  unfold spec_CompareVersions cmpV
  simp only [l1Sign_eq, Option.bind_some]
  by_cases h1 : sgn a.A b.A = 0
  · by_cases h2 : sgn a.B b.B = 0 <;> simp [h1, h2]
  · simp [h1]

theorem firstOf (l : List Int) (h : l.length ≤ 10) : loop (cmp_Or_int_l1b l) 0 = some (frs (scanL (fun _ c => if c != 0 then some c else none) 0 l)) := by
  refine loop_scan l _ (fun i hi => ?_) ?_
  · unfold cmp_Or_int_l1b
    rw [if_pos (by simp; omega), idx_nat hi]
    simp only [Option.bind_some]
    rw [w64_nat (by omega)]
    cases l[i] != 0 <;> rfl
  · unfold cmp_Or_int_l1b
    rw [if_neg (by simp)]

theorem compare_impl (a b : Version) : impl_compare a b = some (cmpV a b) := by
  unfold impl_compare cmpV cmp_Or_int cmp_Or_int_l1
  simp only [cmp_eq, Option.bind_some]
  rw [firstOf _ (by simp), frs_go]
  by_cases h1 : sgn a.A b.A = 0
  · by_cases h2 : sgn a.B b.B = 0
    · by_cases h3 : sgn a.C b.C = 0 <;> simp [h1, h2, h3, scanL]
    · simp [h1, h2, scanL]
  · simp [h1, scanL]

/-- Two versions are the same. -/
def eqV (a b : Version) : Bool := a.A == b.A && (a.B == b.B && (a.C == b.C && true))

theorem cmpV_zero (a b : Version) : (cmpV a b == 0) = eqV a b := by
  unfold cmpV eqV sgn
  rw [Bool.eq_iff_iff]
  simp only [beq_iff_eq, Bool.and_eq_true, Bool.and_true]
  constructor
  · intro h
    split at h <;> omega
  · intro ⟨h1, h2, h3⟩
    split <;> omega

def topV : Version := { A := 1000, B := 0, C := 0 }

/-- What is wrong with a term. -/
def TF (t : Term) : Int := if NF t.Name ≠ 0 then NF t.Name else if VF t.Low ≠ 0 then VF t.Low else
  if eqV t.High topV = false ∧ VF t.High ≠ 0 then 3 else if cmpV t.Low t.High ≥ 0 then 1 else 0

theorem TermFault_spec (t : Term) : spec_TermFault t = some (TF t) := by
  unfold spec_TermFault TF spec_l1Top
  simp only [NameFault_spec, VersionFault_spec, CompareVersions_spec, Option.bind_some]
  show (if (NF t.Name != 0) = true then some (NF t.Name) else if (VF t.Low != 0) = true then some (VF t.Low) else (if (!(eqV t.High topV)) = true then some (VF t.High != 0) else some false).bind fun v => if v = true then some 3 else if decide (cmpV t.Low t.High ≥ 0) = true then some 1 else some 0) = _
  generalize NF t.Name = a
  generalize VF t.Low = b
  generalize eqV t.High topV = c
  generalize VF t.High = d
  generalize cmpV t.Low t.High = e
  by_cases h1 : a = 0
  · by_cases h2 : b = 0
    · by_cases h4 : d = 0 <;> by_cases h5 : e ≥ 0 <;> cases c <;> simp [h1, h2, h4, h5]
    · simp [h1, h2]
  · simp [h1]

theorem TermFault_impl (t : Term) : impl_TermFault t = some (TF t) := by
  unfold impl_TermFault TF impl_top
  simp only [NameFault_impl, VersionFault_impl, compare_impl, Option.bind_some]
  show (if (NF t.Name != 0) = true then some (NF t.Name) else if (VF t.Low != 0) = true then some (VF t.Low) else (if (!(eqV t.High topV)) = true then some (VF t.High != 0) else some false).bind fun v => if v = true then some 3 else if decide (cmpV t.Low t.High ≥ 0) = true then some 1 else some 0) = _
  generalize NF t.Name = a
  generalize VF t.Low = b
  generalize eqV t.High topV = c
  generalize VF t.High = d
  generalize cmpV t.Low t.High = e
  by_cases h1 : a = 0
  · by_cases h2 : b = 0
    · by_cases h4 : d = 0 <;> by_cases h5 : e ≥ 0 <;> cases c <;> simp [h1, h2, h4, h5]
    · simp [h1, h2]
  · simp [h1]

/-- The first fault of terms. -/
def tsF (l : List Term) : Int := (scanL (fun _ t => if TF t != 0 then some (TF t) else none) 0 l).getD 0

theorem termsFault_impl (l : List Term) (h : l.length ≤ 1048576) : impl_termsFault l = some (tsF l) := by
  have key := loop_scan l (fun _ t => if TF t != 0 then some (TF t) else none) (b := impl_termsFault_l1b l) (by
    intro i hi
    unfold impl_termsFault_l1b
    rw [if_pos (by simp; omega), idx_nat hi]
    simp only [Option.bind_some, TermFault_impl]
    rw [w64_nat (by omega)]
    cases TF l[i] != 0 <;> rfl) (by
    unfold impl_termsFault_l1b
    rw [if_neg (by simp)])
  unfold impl_termsFault impl_termsFault_l1 tsF
  rw [key, frs_go]
  cases scanL (fun _ t => if TF t != 0 then some (TF t) else none) 0 l <;> rfl

/-! ### The text of a version -/
theorem decS_size {n : Nat} (h : n < 1000) : (decS n).size ≤ 3 := by
  rw [← bl_length, bl_decS]
  exact decL_le 2 n (by omega)

theorem dot_size : (bs [46]).size = 1 := rfl

/-- The text of a version. -/
def verS (v : Version) : ByteArray := decS v.A.toNat ++ bs [46] ++ decS v.B.toNat ++ bs [46] ++ decS v.C.toNat

theorem VF_zero {v : Version} (h : VF v = 0) : (0 ≤ v.A ∧ v.A ≤ 999) ∧ (0 ≤ v.B ∧ v.B ≤ 999) ∧ (0 ≤ v.C ∧ v.C ≤ 999) := by
  unfold VF inB at h
  split at h
  · rename_i hh
    simp only [Bool.and_eq_true, decide_eq_true_eq] at hh
    omega
  · cases h

theorem verS_size {v : Version} (h : VF v = 0) : (verS v).size ≤ 11 := by
  obtain ⟨h1, h2, h3⟩ := VF_zero h
  unfold verS
  simp only [ba_size, dot_size]
  have a1 := decS_size (n := v.A.toNat) (by omega)
  have a2 := decS_size (n := v.B.toNat) (by omega)
  have a3 := decS_size (n := v.C.toNat) (by omega)
  omega

theorem dec_spec {x : Int} (h : 0 ≤ x ∧ x ≤ 999) : spec_l1Decimal x = some (decS x.toNat) := by
  have := l1Decimal_eq x.toNat (by omega)
  rwa [Int.toNat_of_nonneg h.1] at this

theorem dec_impl {x : Int} (h : 0 ≤ x ∧ x ≤ 999) : impl_dec x = some (decS x.toNat) := by
  have := FormatInt_eq x.toNat (by omega)
  rw [Int.toNat_of_nonneg h.1] at this
  unfold impl_dec
  rw [this]
  rfl

theorem FormatVersion_spec {v : Version} (h : VF v = 0) : spec_FormatVersion v = some (verS v) := by
  obtain ⟨h1, h2, h3⟩ := VF_zero h
  have a1 := decS_size (n := v.A.toNat) (by omega)
  have a2 := decS_size (n := v.B.toNat) (by omega)
  have a3 := decS_size (n := v.C.toNat) (by omega)
  unfold spec_FormatVersion verS
  rw [VersionFault_spec, h]
  simp only [Option.bind_some, dec_spec h1, dec_spec h2, dec_spec h3]
  rw [if_neg (by simp)]
  rw [cat_of (by rw [dot_size]; omega)]
  simp only [Option.bind_some]
  rw [cat_of (by simp only [ba_size, dot_size]; omega)]
  simp only [Option.bind_some]
  rw [cat_of (by simp only [ba_size, dot_size]; omega)]
  simp only [Option.bind_some]
  rw [cat_of (by simp only [ba_size, dot_size]; omega)]
  rfl

theorem text_impl {v : Version} (h : VF v = 0) : impl_Version_text v = some (verS v) := by
  obtain ⟨h1, h2, h3⟩ := VF_zero h
  have a1 := decS_size (n := v.A.toNat) (by omega)
  have a2 := decS_size (n := v.B.toNat) (by omega)
  have a3 := decS_size (n := v.C.toNat) (by omega)
  unfold impl_Version_text verS
  simp only [Option.bind_some, dec_impl h1, dec_impl h2, dec_impl h3]
  rw [cat_of (by rw [dot_size]; omega)]
  simp only [Option.bind_some]
  rw [cat_of (by simp only [ba_size, dot_size]; omega)]
  simp only [Option.bind_some]
  rw [cat_of (by simp only [ba_size, dot_size]; omega)]
  simp only [Option.bind_some]
  rw [cat_of (by simp only [ba_size, dot_size]; omega)]
  rfl

theorem NF_size {s : ByteArray} (h : NF s = 0) : 1 ≤ s.size ∧ s.size ≤ 12 := by
  unfold NF at h
  split at h
  · cases h
  · split at h
    · cases h
    · omega

/-! ### The text of a term -/
def zeroV : Version := { A := 0, B := 0, C := 0 }

def lowS (t : Term) : ByteArray := if eqV t.Low zeroV then bs [] else bs [62, 61] ++ verS t.Low

def highS (t : Term) : ByteArray := if eqV t.High topV then bs [] else bs [60] ++ verS t.High

def termS (t : Term) : ByteArray := t.Name ++ (lowS t ++ highS t)

theorem bl_nil : bl (bs []) = [] := by unfold bl; rw [ByteArray.toList_eq]; rfl

theorem ba_nil (a : ByteArray) : a ++ bs [] = a := bl_inj.1 (by rw [bl_append, bl_nil, List.append_nil])

theorem TF_zero {t : Term} (h : TF t = 0) : NF t.Name = 0 ∧ VF t.Low = 0 ∧ (eqV t.High topV = true ∨ VF t.High = 0) ∧ cmpV t.Low t.High < 0 := by
  unfold TF at h
  split at h
  · rename_i h1; exact absurd h h1
  rename_i h1
  split at h
  · rename_i h2; exact absurd h h2
  rename_i h2
  split at h
  · cases h
  rename_i h3
  split at h
  · cases h
  rename_i h4
  refine ⟨by simpa using h1, by simpa using h2, ?_, by omega⟩
  cases he : eqV t.High topV
  · refine .inr ?_
    by_cases hv : VF t.High = 0
    · exact hv
    · exact absurd ⟨he, hv⟩ h3
  · exact .inl rfl

theorem lowS_size {t : Term} (h : VF t.Low = 0) : (lowS t).size ≤ 13 := by
  unfold lowS
  have hv := verS_size h
  split
  · decide
  · rw [ba_size]; have : (bs [62, 61]).size = 2 := rfl; omega

theorem highS_size {t : Term} (h : eqV t.High topV = true ∨ VF t.High = 0) : (highS t).size ≤ 12 := by
  unfold highS
  split
  · decide
  · rename_i he
    rcases h with h | h
    · exact absurd h he
    · have hv := verS_size h
      rw [ba_size]; have : (bs [60]).size = 1 := rfl; omega

theorem termS_size {t : Term} (h : TF t = 0) : (termS t).size ≤ 37 := by
  obtain ⟨h1, h2, h3, _⟩ := TF_zero h
  have a1 := NF_size h1
  have a2 := lowS_size h2
  have a3 := highS_size h3
  unfold termS
  simp only [ba_size]
  omega

theorem cmpV_ne (a b : Version) : (cmpV a b != 0) = !(eqV a b) := by
  rw [← cmpV_zero]; rfl

theorem FormatTerm_spec (t : Term) : spec_FormatTerm t = some (if TF t != 0 then bs [] else termS t) := by
  unfold spec_FormatTerm
  rw [TermFault_spec]
  simp only [Option.bind_some]
  cases h : TF t != 0
  case true => rfl
  have h0 : TF t = 0 := by simpa using h
  obtain ⟨h1, h2, h3, _⟩ := TF_zero h0
  have a1 := NF_size h1
  have a2 := lowS_size h2
  have a3 := highS_size h3
  rw [if_neg (by simp), if_neg (by simp), CompareVersions_spec]
  simp only [Option.bind_some, spec_l1Top]
  rw [show (cmpV t.Low ({ A := 0, B := 0, C := 0 } : Version) != 0) = !(eqV t.Low zeroV) from cmpV_ne _ _]
  have step1 : (if (!(eqV t.Low zeroV)) = true then (cat t.Name (bs [62, 61])).bind fun x8 => (spec_FormatVersion t.Low).bind fun x10 => (cat x8 x10).bind fun x12 => some x12 else some t.Name) = some (t.Name ++ lowS t) := by
    unfold lowS at a2 ⊢
    cases hq : eqV t.Low zeroV
    · rw [if_pos (by rfl), FormatVersion_spec h2]
      have hv := verS_size h2
      have h62 : (bs [62, 61]).size = 2 := rfl
      rw [cat_of (by omega)]
      simp only [Option.bind_some]
      rw [cat_of (by rw [ba_size]; omega)]
      simp only [Option.bind_some, ba_assoc]
      rfl
    · rw [if_neg (by simp)]
      rw [if_pos rfl, ba_nil]
  rw [step1]
  simp only [Option.bind_some]
  have step2 : (if (!(eqV t.High topV)) = true then (cat (t.Name ++ lowS t) (bs [60])).bind fun x8 => (spec_FormatVersion t.High).bind fun x10 => (cat x8 x10).bind fun x12 => some x12 else some (t.Name ++ lowS t)) = some (termS t) := by
    unfold termS
    unfold highS at a3 ⊢
    cases hq : eqV t.High topV
    · have hV : VF t.High = 0 := h3.resolve_left (by rw [hq]; simp)
      have hv := verS_size hV
      have h62 : (bs [60]).size = 1 := rfl
      rw [if_pos (by rfl), FormatVersion_spec hV]
      rw [cat_of (by rw [ba_size]; omega)]
      simp only [Option.bind_some]
      rw [cat_of (by simp only [ba_size]; omega)]
      simp only [Option.bind_some, ba_assoc]
      rfl
    · rw [if_neg (by simp)]
      rw [if_pos rfl, ba_nil]
  exact (congrArg (fun o => Option.bind o fun v => some v) step2)

theorem FormatTerm_impl (t : Term) : impl_FormatTerm t = some (if TF t != 0 then bs [] else termS t) := by
  unfold impl_FormatTerm
  rw [TermFault_impl]
  simp only [Option.bind_some]
  cases h : TF t != 0
  case true => rfl
  have h0 : TF t = 0 := by simpa using h
  obtain ⟨h1, h2, h3, _⟩ := TF_zero h0
  have a1 := NF_size h1
  have a2 := lowS_size h2
  have a3 := highS_size h3
  simp only [Bool.false_eq_true, if_false, Option.bind_some, impl_top]
  rw [show (!(t.Low.A == 0 && (t.Low.B == 0 && (t.Low.C == 0 && true)))) = !(eqV t.Low zeroV) from rfl]
  have step1 : (if (!(eqV t.Low zeroV)) = true then (impl_Version_text t.Low).bind fun x6 => (cat (bs [62, 61]) x6).bind fun x8 => (cat t.Name x8).bind fun x10 => some x10 else some t.Name) = some (t.Name ++ lowS t) := by
    unfold lowS at a2 ⊢
    cases hq : eqV t.Low zeroV
    · rw [if_pos (by rfl), text_impl h2]
      have hv := verS_size h2
      have h62 : (bs [62, 61]).size = 2 := rfl
      simp only [Option.bind_some]
      rw [cat_of (by omega)]
      simp only [Option.bind_some]
      rw [cat_of (by rw [ba_size]; omega)]
      rfl
    · rw [if_neg (by simp)]
      rw [if_pos rfl, ba_nil]
  rw [step1]
  simp only [Option.bind_some]
  have step2 : (if (!(eqV t.High topV)) = true then (impl_Version_text t.High).bind fun x6 => (cat (bs [60]) x6).bind fun x8 => (cat (t.Name ++ lowS t) x8).bind fun x10 => some x10 else some (t.Name ++ lowS t)) = some (termS t) := by
    unfold termS
    unfold highS at a3 ⊢
    cases hq : eqV t.High topV
    · have hV : VF t.High = 0 := h3.resolve_left (by rw [hq]; simp)
      have hv := verS_size hV
      have h62 : (bs [60]).size = 1 := rfl
      rw [if_pos (by rfl), text_impl hV]
      simp only [Option.bind_some]
      rw [cat_of (by omega)]
      simp only [Option.bind_some]
      rw [cat_of (by simp only [ba_size]; omega)]
      simp only [Option.bind_some, ba_assoc]
      rfl
    · rw [if_neg (by simp)]
      rw [if_pos rfl, ba_nil]
  exact (congrArg (fun o => Option.bind o fun v => some v) step2)

theorem tsF_scan : ∀ (l : List Term) (i : Nat), (scanL (fun _ t => if TF t != 0 then some (TF t) else none) i l).getD 0 = 0 → ∀ t ∈ l, TF t = 0
  | [], _, _ => by simp
  | t :: l, i, h => by
    simp only [scanL] at h
    cases ht : TF t != 0
    · rw [ht] at h
      have := tsF_scan l (i + 1) (by simpa using h)
      intro x hx
      rcases List.mem_cons.1 hx with rfl | hx
      · simpa using ht
      · exact this x hx
    · rw [ht] at h
      simp only [if_true, Option.getD_some] at h
      rw [h] at ht
      simp at ht

theorem tsF_zero {l : List Term} (h : tsF l = 0) : ∀ t ∈ l, TF t = 0 := tsF_scan l 0 h

/-- A text, grown line by line. -/
def growS {α : Type} (f : α → ByteArray) (a : ByteArray) (l : List α) : ByteArray := l.foldl (fun a t => a ++ f t) a

theorem growS_eq {α : Type} (f : α → ByteArray) : ∀ (l : List α) (a : ByteArray), foldI (fun _ a t => a ++ f t) 0 l a = growS f a l ∧ ∀ i, foldI (fun _ a t => a ++ f t) i l a = growS f a l
  | [], a => ⟨rfl, fun _ => rfl⟩
  | x :: l, a => by
    have := growS_eq f l (a ++ f x)
    exact ⟨this.2 1, fun i => this.2 (i + 1)⟩

/-- A loop that puts a line behind a text for each element. -/
theorem loop_grow {α : Type} (xs : List α) (f : α → ByteArray) (C : Nat) (hC : ∀ x ∈ xs, (f x).size ≤ C) {b : (ByteArray × Int) → Option (Lp (ByteArray × Int) ByteArray)} (a0 : ByteArray)
    (hstep : ∀ (i : Nat) (a : ByteArray) (hi : i < xs.length), a.size ≤ a0.size + i * C → b (a, (i : Int)) = some (.go (a ++ f xs[i], ((i + 1 : Nat) : Int)))) (hend : ∀ a, b (a, (xs.length : Int)) = some (.done a)) :
    loop b (a0, 0) = some (growS f a0 xs) ∧ (growS f a0 xs).size ≤ a0.size + xs.length * C := by
  have h := loop_foldI xs (fun _ a t => a ++ f t) (fun i a => a.size ≤ a0.size + i * C) (b := b) (fun i a hi hI => ⟨hstep i a hi hI, by
    have h := hC _ (List.getElem_mem hi)
    simp only [ba_size]
    rw [Nat.add_mul]
    omega⟩) hend xs.length 0 a0 (by omega) (by omega)
  rw [List.drop_zero, (growS_eq f xs a0).1] at h
  exact h

def lineS (t : Term) : ByteArray := termS t ++ bs [10]

/-- The text of terms. -/
def rootsS (l : List Term) : ByteArray := growS lineS (bs []) l

theorem lineS_size {t : Term} (h : TF t = 0) : (lineS t).size ≤ 38 := by
  unfold lineS
  have := termS_size h
  rw [ba_size]; have : (bs [10]).size = 1 := rfl; omega

theorem l8Text_spec (l : List Term) (hl : l.length ≤ 1048576) (h : ∀ t ∈ l, TF t = 0) : spec_l8Text l = some (rootsS l) := by
  have key := loop_grow l lineS 38 (fun t ht => lineS_size (h t ht)) (b := spec_l8Text_l1b l) (bs []) (fun i a hi ha => by
    have hz : (bs []).size = 0 := rfl
    have ht := h _ (List.getElem_mem hi)
    have hts := termS_size ht
    have h10 : (bs [10]).size = 1 := rfl
    unfold spec_l8Text_l1b
    rw [if_pos (by simp; omega), idx_nat hi]
    simp only [Option.bind_some, FormatTerm_spec]
    rw [if_neg (by simp [ht]), cat_of (by omega)]
    simp only [Option.bind_some]
    rw [cat_of (by rw [ba_size]; omega)]
    simp only [Option.bind_some, ba_assoc]
    rw [w64_nat (by omega)]
    rfl) (fun a => by
    unfold spec_l8Text_l1b
    rw [if_neg (by simp)])
  unfold spec_l8Text spec_l8Text_l1
  rw [key.1]
  rfl

theorem RootsText_impl (l : List Term) (hl : l.length ≤ 1048576) : impl_RootsText l = some (if tsF l != 0 then bs [] else rootsS l) := by
  unfold impl_RootsText
  rw [termsFault_impl l hl]
  simp only [Option.bind_some]
  cases h0 : tsF l != 0
  case true => rfl
  have h := tsF_zero (l := l) (by simpa using h0)
  have key := loop_grow l lineS 38 (fun t ht => lineS_size (h t ht)) (b := impl_RootsText_l1b l) (bs []) (fun i a hi ha => by
    have hz : (bs []).size = 0 := rfl
    have ht := h _ (List.getElem_mem hi)
    have hts := termS_size ht
    have h10 : (bs [10]).size = 1 := rfl
    unfold impl_RootsText_l1b
    rw [if_pos (by simp; omega), idx_nat hi]
    simp only [Option.bind_some, FormatTerm_impl]
    rw [if_neg (by simp [ht]), cat_of (by omega)]
    simp only [Option.bind_some]
    rw [cat_of (by rw [ba_size]; omega)]
    simp only [Option.bind_some]
    rw [w64_nat (by omega)]
    rfl) (fun a => by
    unfold impl_RootsText_l1b
    rw [if_neg (by simp)])
  unfold impl_RootsText_l1
  rw [key.1]
  rfl

theorem scan_none {α R : Type} (g : Nat → α → Option R) : ∀ (xs : List α) (i : Nat), scanL g i xs = none ↔ ∀ (j : Nat) (h : j < xs.length), g (i + j) xs[j] = none
  | [], i => by simp [scanL]
  | x :: xs, i => by
    simp only [scanL]
    cases h : g i x with
    | some r =>
      simp only [reduceCtorEq, false_iff]
      intro hh
      have := hh 0 (by simp)
      simp only [Nat.add_zero, List.getElem_cons_zero] at this
      rw [h] at this
      cases this
    | none =>
      show scanL g (i + 1) xs = none ↔ _
      rw [scan_none g xs (i + 1)]
      constructor
      · intro hh j hj
        cases j with
        | zero => simpa using h
        | succ j =>
          have := hh j (by simpa using hj)
          rw [show i + (j + 1) = i + 1 + j by omega]
          simpa using this
      · intro hh j hj
        have := hh (j + 1) (by simpa using hj)
        rw [show i + (j + 1) = i + 1 + j by omega] at this
        simpa using this

theorem take_sub {α : Type} {xs : List α} {i : Nat} (h : i ≤ xs.length) : lsub xs 0 (i : Int) = some (xs.take i) := by
  have := lsub_of (xs := xs) (l := 0) (h := i) (by omega) h
  rw [show ((0 : Nat) : Int) = 0 from rfl] at this
  rw [this]
  simp

theorem scan_const {α R : Type} (p : α → Bool) (r : R) : ∀ (xs : List α) (i : Nat), scanL (fun _ x => if p x then some r else none) i xs = if xs.any p then some r else none
  | [], i => rfl
  | x :: xs, i => by
    simp only [scanL]
    cases h : p x
    · simp only [Bool.false_eq_true, if_false, List.any_cons, h, Bool.false_or]
      exact scan_const p r xs (i + 1)
    · simp [h]

theorem ssub_of {s : ByteArray} {l h : Nat} (h1 : l ≤ h) (h2 : h ≤ s.size) : ssub s (l : Int) (h : Int) = some (s.extract l h) := by
  unfold ssub
  rw [if_pos (by omega)]
  rfl

theorem bl_toList (s : ByteArray) : s.data.toList.map (fun b => (b.toNat : Int)) = bl s := by
  unfold bl
  rw [ByteArray.toList_eq]

/-! ### What is lacking -/
def fileOf (d : Disk) (p : ByteArray) : Option File := d.Files.find? (fun f => decide (f.Path = p))

/-- The bytes of files are bytes. -/
def Byt (d : Disk) : Prop := ∀ f ∈ d.Files, ∀ c ∈ f.Data, 0 ≤ c ∧ c ≤ 255

theorem file_both (d : Disk) (p : ByteArray) (hg : d.good) :
    (∃ k : Nat, ∃ hk : k < d.Files.length, spec_l7Find d p = some (k : Int) ∧ impl_Disk_data d p = some (d.Files[k].Data, true) ∧ fileOf d p = some d.Files[k]) ∨
      (spec_l7Find d p = some (-1) ∧ impl_Disk_data d p = some ([], false) ∧ fileOf d p = none) := by
  rcases data_both d p hg with ⟨k, hk, e1, e2, hp⟩ | ⟨e1, e2, hp⟩
  · exact .inl ⟨k, hk, e1, e2, find_of hg.sorted hk hp⟩
  · exact .inr ⟨e1, e2, find_none hp⟩

/-! ### Texts cut at a byte -/
def cutL (c : Int) : List Int → List (List Int)
  | [] => [[]]
  | x :: l => if x = c then [] :: cutL c l else match cutL c l with
    | h :: t => (x :: h) :: t
    | [] => [[x]]

theorem cutL_ne (c : Int) : ∀ l, cutL c l ≠ []
  | [] => by simp [cutL]
  | x :: l => by
    unfold cutL
    split
    · simp
    · split <;> simp

theorem cutL_range {c : Int} : ∀ {l : List Int}, (∀ x ∈ l, 0 ≤ x ∧ x ≤ 255) → ∀ p ∈ cutL c l, ∀ x ∈ p, 0 ≤ x ∧ x ≤ 255
  | [], _ => by simp [cutL]
  | y :: l, h => by
    have ih := cutL_range (c := c) (l := l) (fun x hx => h x (by simp [hx]))
    intro p hp
    unfold cutL at hp
    split at hp
    · rcases List.mem_cons.1 hp with rfl | hp
      · simp
      · exact ih p hp
    · split at hp
      · rename_i a t e
        rcases List.mem_cons.1 hp with rfl | hp
        · intro x hx
          rcases List.mem_cons.1 hx with rfl | hx
          · exact h _ (by simp)
          · exact ih a (by rw [e]; simp) x hx
        · exact ih p (by rw [e]; simp [hp])
      · rename_i e
        exact absurd e (cutL_ne c l)

theorem cutL_length (c : Int) : ∀ l, (cutL c l).length ≤ l.length + 1
  | [] => by simp [cutL]
  | x :: l => by
    have ih := cutL_length c l
    unfold cutL
    split
    · simp; omega
    · split
      · rename_i e; rw [e] at ih; simp at ih ⊢; omega
      · simp

theorem cutL_size (c : Int) : ∀ l, ∀ p ∈ cutL c l, p.length ≤ l.length
  | [] => by simp [cutL]
  | x :: l => by
    have ih := cutL_size c l
    intro p hp
    unfold cutL at hp
    split at hp
    · rcases List.mem_cons.1 hp with rfl | hp
      · simp
      · have := ih p hp; simp; omega
    · split at hp
      · rename_i a t e
        rcases List.mem_cons.1 hp with rfl | hp
        · have := ih a (by rw [e]; simp); simp; omega
        · have := ih p (by rw [e]; simp [hp]); simp; omega
      · simp at hp; rw [hp]; simp

/-- The parts, as texts. -/
def partsS (c : Int) (s : ByteArray) : List ByteArray := (cutL c (bl s)).map b2s

theorem partsS_bl (c : Int) (s : ByteArray) : (partsS c s).map bl = cutL c (bl s) := by
  unfold partsS
  rw [List.map_map]
  have : ∀ p ∈ cutL c (bl s), (bl ∘ b2s) p = id p := fun p hp => bl_b2s (cutL_range bl_range p hp)
  rw [List.map_congr_left this, List.map_id]

theorem map_bl_inj : ∀ {a b : List ByteArray}, a.map bl = b.map bl → a = b
  | [], [], _ => rfl
  | [], _ :: _, h => by simp at h
  | _ :: _, [], h => by simp at h
  | x :: a, y :: b, h => by
    simp only [List.map_cons, List.cons.injEq] at h
    rw [bl_inj.1 h.1, map_bl_inj h.2]

theorem partsS_of {c : Int} {s : ByteArray} {ps : List ByteArray} (h : ps.map bl = cutL c (bl s)) : ps = partsS c s := map_bl_inj (h.trans (partsS_bl c s).symm)

/-! strings.Split at one byte -/
def cutU (c : UInt8) : List UInt8 → List (List UInt8)
  | [] => [[]]
  | x :: l => if x = c then [] :: cutU c l else match cutU c l with
    | h :: t => (x :: h) :: t
    | [] => [[x]]

theorem cutU_cutL (c : UInt8) : ∀ (l : List UInt8), (cutU c l).map (fun p => p.map (fun b => (b.toNat : Int))) = cutL (c.toNat : Int) (l.map (fun b => (b.toNat : Int)))
  | [] => rfl
  | x :: l => by
    have ih := cutU_cutL c l
    simp only [List.map_cons]
    unfold cutU cutL
    by_cases h : x = c
    · subst h
      rw [if_pos rfl, if_pos rfl, List.map_cons, ih]
      rfl
    · have h' : ¬ ((x.toNat : Int) = (c.toNat : Int)) := fun e => h (UInt8.toNat_inj.1 (by omega))
      rw [if_neg h, if_neg h', ← ih]
      cases hc : cutU c l with
      | nil => rfl
      | cons a t => rfl

theorem cutU_none (c : UInt8) : ∀ (l : List UInt8), c ∉ l → cutU c l = [l]
  | [], _ => rfl
  | x :: l, h => by
    unfold cutU
    rw [if_neg (fun e => h (by simp [e])), cutU_none c l (fun e => h (by simp [e]))]

theorem index_one (c b : UInt8) (l : List UInt8) : Lib.index (b :: l) [c] = if b = c then 0 else if Lib.index l [c] == -1 then -1 else Lib.index l [c] + 1 := by
  rw [Lib.index]
  have : ([c].isPrefixOf (b :: l)) = decide (b = c) := by
    simp only [List.isPrefixOf, Bool.and_true]
    rw [Bool.eq_iff_iff, beq_iff_eq, decide_eq_true_eq]
    exact ⟨fun h => h.symm, fun h => h.symm⟩
  rw [this]
  by_cases h : b = c <;> simp [h]

theorem splitK_cut (c : UInt8) : ∀ (l : List UInt8) (k : Nat), l.count c ≤ k → Lib.splitK [c] 0 k l = cutU c l
  | [], k, _ => by
    cases k with
    | zero => rfl
    | succ k => rfl
  | b :: l, 0, h => by
    have hn : c ∉ b :: l := List.count_eq_zero.1 (by omega)
    rw [cutU_none c _ hn]
    rfl
  | b :: l, k + 1, h => by
    unfold cutU
    by_cases hb : b = c
    · subst hb
      rw [if_pos rfl]
      have e : Lib.index (b :: l) [b] = 0 := by rw [index_one, if_pos rfl]
      rw [Lib.splitK, e]
      simp only [List.count_cons_self] at h
      rw [if_neg (by decide)]
      show [] :: Lib.splitK [b] 0 k ((b :: l).drop 1) = _
      rw [List.drop_one, List.tail_cons, splitK_cut b l k (by omega)]
    · rw [if_neg hb]
      have hc : l.count c ≤ k + 1 := by rw [List.count_cons_of_ne hb] at h; exact h
      have ih := splitK_cut c l (k + 1) hc
      rw [← ih, Lib.splitK, Lib.splitK, index_one, if_neg hb]
      cases hi : Lib.index l [c] == -1
      · have hge := Lib.index_ge l [c]
        have hne : Lib.index l [c] ≠ -1 := by simpa using hi
        have hne' : (Lib.index l [c] + 1 == -1) = false := by
          rw [beq_eq_false_iff_ne]; omega
        simp only [Bool.false_eq_true, if_false, hne']
        rw [show (Lib.index l [c] + 1).toNat = (Lib.index l [c]).toNat + 1 by omega]
        simp only [Nat.add_zero, List.length_singleton, List.take_succ_cons, List.drop_succ_cons]
      · simp

theorem Split_impl (s : ByteArray) (c : UInt8) (h : s.size ≤ 1048577) : strings_Split s ⟨#[c]⟩ = some (partsS (c.toNat : Int) s) := by
  unfold strings_Split
  rw [if_pos ⟨by omega, by show 1 ≤ 1; omega⟩]
  congr 1
  refine partsS_of ?_
  have e := Lib.splitB_data ⟨#[c]⟩ 0 (Lib.countB s ⟨#[c]⟩) s
  have e2 : Lib.countB s ⟨#[c]⟩ = s.data.toList.count c := Lib.count_one c s.data.toList
  rw [e2] at e ⊢
  rw [show (⟨#[c]⟩ : ByteArray).data.toList = [c] from rfl, splitK_cut c _ _ (Nat.le_refl _)] at e
  have e3 : ∀ ps : List ByteArray, ps.map bl = (ps.map (·.data.toList)).map (fun p => p.map (fun b => (b.toNat : Int))) := by
    intro ps
    rw [List.map_map]
    exact List.map_congr_left (fun p _ => (bl_toList p).symm)
  rw [e3, e, cutU_cutL, bl_toList]

/-! the reference's cut -/
def cutF (c : Int) (l : List Int) : List (List Int) × List Int := l.foldl (fun a x => if x = c then (a.1 ++ [a.2], []) else (a.1, a.2 ++ [x])) ([], [])

theorem cutF_gen (c : Int) : ∀ (l : List Int) (a : List (List Int) × List Int), (l.foldl (fun a x => if x = c then (a.1 ++ [a.2], []) else (a.1, a.2 ++ [x])) a).1 ++ [(l.foldl (fun a x => if x = c then (a.1 ++ [a.2], []) else (a.1, a.2 ++ [x])) a).2] =
    a.1 ++ (match cutL c l with | h :: t => (a.2 ++ h) :: t | [] => [a.2])
  | [], a => by simp [cutL]
  | x :: l, a => by
    simp only [List.foldl_cons]
    rw [cutF_gen c l]
    have hn := cutL_ne c l
    by_cases h : x = c
    · rw [if_pos h]
      conv => rhs; unfold cutL
      rw [if_pos h]
      cases hc : cutL c l with
      | nil => exact absurd hc hn
      | cons a t => simp
    · rw [if_neg h]
      conv => rhs; unfold cutL
      rw [if_neg h]
      cases hc : cutL c l with
      | nil => exact absurd hc hn
      | cons a t => simp

theorem cutF_eq (c : Int) (l : List Int) : (cutF c l).1 ++ [(cutF c l).2] = cutL c l := by
  unfold cutF
  rw [cutF_gen c l ([], [])]
  cases h : cutL c l with
  | nil => exact absurd h (cutL_ne c l)
  | cons a t => simp

theorem cutF_snoc (c : Int) (l : List Int) (x : Int) : cutF c (l ++ [x]) = if x = c then ((cutF c l).1 ++ [(cutF c l).2], []) else ((cutF c l).1, (cutF c l).2 ++ [x]) := by
  unfold cutF
  rw [List.foldl_append]
  rfl

theorem cutF_len (c : Int) (l : List Int) : (cutF c l).1.length ≤ l.length := by
  have h1 := cutF_eq c l
  have h2 := cutL_length c l
  rw [← h1] at h2
  simp at h2
  exact h2

theorem l1Parts_spec (s : ByteArray) (c : Int) (h : s.size ≤ 1048577) : spec_l1Parts s c = some (partsS c s) := by
  have hlen := bl_length s
  obtain ⟨t, e, ht⟩ := loop_up (b := spec_l1Parts_l1b s c) (fun i q => q.2.2 = (i : Int) ∧
      ((i ≤ s.size ∧ q.1.map bl = (cutF c ((bl s).take i)).1 ∧ ∃ f : Nat, q.2.1 = (f : Int) ∧ f ≤ i ∧ ((bl s).drop f).take (i - f) = (cutF c ((bl s).take i)).2) ∨ (i = s.size + 1 ∧ q.1.map bl = cutL c (bl s)))) (s.size + 1)
    (fun t => t.map bl = cutL c (bl s)) (by
    rintro i ⟨out, from_, j⟩ hi ⟨hj, hI⟩
    simp only at hj hI
    subst hj
    rcases hI with ⟨hle, ho, f, hf, hfi, hc⟩ | ⟨he, _⟩
    case inr => omega
    subst hf
    have hol : out.length ≤ i := by
      have := congrArg List.length ho
      rw [List.length_map] at this
      rw [this]
      refine Nat.le_trans (cutF_len _ _) ?_
      simp
      omega
    unfold spec_l1Parts_l1b
    rw [if_pos (by simp; omega)]
    simp only
    by_cases hn : i = s.size
    · subst hn
      have es : ssub s (f : Int) (s.size : Int) = some (s.extract f s.size) := ssub_of hfi (Nat.le_refl _)
      rw [if_pos (by simp)]
      simp only [Option.bind_some, if_true]
      rw [es]
      simp only [Option.bind_some]
      rw [app_of (by simp; omega) (by simp; omega), w64_nat (by omega)]
      refine .inl ⟨_, rfl, rfl, .inr ⟨trivial, ?_⟩⟩
      have htk : (bl s).take s.size = bl s := by rw [← hlen, List.take_length]
      rw [htk] at ho hc
      rw [List.map_append, ho, ← cutF_eq]
      simp only [List.map_cons, List.map_nil]
      rw [bl_extract, hc]
    · have hlt : i < (bl s).length := by omega
      have htk : (bl s).take (i + 1) = (bl s).take i ++ [(bl s)[i]] := List.take_succ_eq_append_getElem hlt
      rw [if_neg (by simp; omega), bidx_nat hlt]
      simp only [Option.bind_some]
      by_cases hb : (bl s)[i] = c
      · rw [show ((bl s)[i] == c) = true by simpa using hb]
        simp only [if_true]
        have es : ssub s (f : Int) (i : Int) = some (s.extract f i) := ssub_of hfi (by omega)
        rw [es]
        simp only [Option.bind_some]
        rw [app_of (by simp; omega) (by simp; omega), w64_nat (by omega)]
        refine .inl ⟨_, rfl, rfl, .inl ⟨by omega, ?_, i + 1, rfl, Nat.le_refl _, ?_⟩⟩
        · rw [htk, cutF_snoc, if_pos hb, List.map_append, ho]
          simp only [List.map_cons, List.map_nil]
          rw [bl_extract, hc]
        · rw [htk, cutF_snoc, if_pos hb]
          simp
      · rw [show ((bl s)[i] == c) = false by simpa using hb]
        simp only [Bool.false_eq_true, if_false, Option.bind_some]
        rw [w64_nat (by omega)]
        refine .inl ⟨_, rfl, rfl, .inl ⟨by omega, ?_, f, rfl, by omega, ?_⟩⟩
        · rw [htk, cutF_snoc, if_neg hb]
          exact ho
        · rw [htk, cutF_snoc, if_neg hb, ← hc, show i + 1 - f = (i - f) + 1 by omega]
          have hd : i - f < ((bl s).drop f).length := by simp; omega
          rw [List.take_succ_eq_append_getElem hd]
          congr 2
          rw [List.getElem_drop]
          congr 1
          omega) (by
    rintro ⟨out, from_, j⟩ ⟨hj, hI⟩
    simp only at hj hI
    subst hj
    rcases hI with ⟨hle, _⟩ | ⟨_, ho⟩
    · omega
    unfold spec_l1Parts_l1b
    rw [if_neg (by simp; omega)]
    exact ⟨_, rfl, ho⟩) (s.size + 1) 0 (([] : List ByteArray), 0, 0) (by omega) ⟨rfl, .inl ⟨by omega, rfl, 0, rfl, by omega, by simp [cutF]⟩⟩
  unfold spec_l1Parts spec_l1Parts_l1
  rw [e, partsS_of ht]
  rfl

/-- The lines of a text. -/
def linesS (s : ByteArray) : List ByteArray := if (partsS 10 s).getLast? = some (bs []) then (partsS 10 s).dropLast else partsS 10 s

theorem lines_tail (ps : List ByteArray) (h0 : ps ≠ []) (hl : ps.length ≤ 1048578) : ((idx ps (w64 ((ps.length : Int) - 1))).bind fun x4 => (if seq x4 (bs []) then ((lsub ps 0 (w64 ((ps.length : Int) - 1))).bind fun x7 => some x7) else (some ps)).bind fun v9 => some v9) =
    some (if ps.getLast? = some (bs []) then ps.dropLast else ps) := by
  have hp : 0 < ps.length := List.length_pos_iff.2 h0
  rw [w64_of (by omega) (by omega), show (ps.length : Int) - 1 = ((ps.length - 1 : Nat) : Int) by omega, idx_nat (show ps.length - 1 < ps.length by omega)]
  simp only [Option.bind_some]
  have hg : ps.getLast? = some ps[ps.length - 1] := by
    rw [List.getLast?_eq_getElem?, List.getElem?_eq_getElem]
  rw [hg]
  by_cases h : ps[ps.length - 1] = bs []
  · rw [if_pos (seq_iff.2 h), if_pos (by rw [h])]
    have e : lsub ps 0 ((ps.length - 1 : Nat) : Int) = some (ps.take (ps.length - 1)) := take_sub (by omega)
    rw [e, List.dropLast_eq_take]
    rfl
  · have hs : seq ps[ps.length - 1] (bs []) = false := by
      cases hq : seq ps[ps.length - 1] (bs []) with
      | false => rfl
      | true => exact absurd (seq_iff.1 hq) h
    rw [hs, if_neg (show ¬ (some ps[ps.length - 1] = some (bs [])) from fun e => h (Option.some.inj e))]
    rfl

theorem partsS_ne (c : Int) (s : ByteArray) : partsS c s ≠ [] := by
  unfold partsS
  intro h
  exact cutL_ne c (bl s) (List.map_eq_nil_iff.1 h)

theorem partsS_len (c : Int) (s : ByteArray) : (partsS c s).length ≤ s.size + 1 := by
  unfold partsS
  rw [List.length_map, ← bl_length]
  exact cutL_length c (bl s)

theorem l2Lines_spec (s : ByteArray) (h : s.size ≤ 1048577) : spec_l2Lines s = some (linesS s) := by
  unfold spec_l2Lines
  rw [l1Parts_spec s 10 h]
  exact lines_tail _ (partsS_ne _ _) (by have := partsS_len 10 s; omega)

theorem linesOf_impl (s : ByteArray) (h : s.size ≤ 1048577) : impl_linesOf s = some (linesS s) := by
  unfold impl_linesOf
  have e := Split_impl s 10 h
  rw [show (((10 : UInt8).toNat : Nat) : Int) = 10 from rfl] at e
  rw [show bs [10] = ⟨#[10]⟩ from rfl, e]
  exact lines_tail _ (partsS_ne _ _) (by have := partsS_len 10 s; omega)

theorem linesS_len (s : ByteArray) : (linesS s).length ≤ s.size + 1 := by
  have := partsS_len 10 s
  unfold linesS
  split
  · simp; omega
  · exact this

theorem linesS_size (s : ByteArray) : ∀ p ∈ linesS s, p.size ≤ s.size := by
  intro p hp
  have hm : p ∈ partsS 10 s := by
    unfold linesS at hp
    split at hp
    · exact (List.dropLast_sublist _).subset hp
    · exact hp
  have hb : bl p ∈ cutL 10 (bl s) := by
    rw [← partsS_bl]
    exact List.mem_map_of_mem hm
  have := cutL_size 10 (bl s) _ hb
  rw [bl_length, bl_length] at this
  exact this

/-! ### A version, read -/
def errV : VersionResult := { Code := 5, Version := zeroV }

def verStep (i : Nat) (a : List Int) (x : ByteArray) : Lp (List Int) (Fl VersionResult (List Int)) := match numL (bl x) 3 with
  | some n => .go (a.set i n)
  | none => .done (.ret errV)

def verEnd (t : Fl VersionResult (List Int)) : VersionResult := match t with
  | .ret r => r
  | .nxt l => { Code := 0, Version := { A := l.getD 0 0, B := l.getD 1 0, C := l.getD 2 0 } }

/-- The version that a text tells. -/
def PV (s : ByteArray) : VersionResult := if (partsS 46 s).length > 3 then errV else verEnd (goL verStep .nxt 0 (partsS 46 s) [0, 0, 0])

theorem numL_nonneg {l : List Int} {n : Int} (h : numL l 3 = some n) : 0 ≤ n := by
  unfold numL at h
  split at h
  · cases h
  · rename_i h1
    cases h
    exact (val_bound (l := l) (by
      intro c hc
      cases hd : digB c with
      | true => rfl
      | false => exact absurd (.inr (.inr (fun h' => by rw [h' c hc] at hd; cases hd))) h1)).1

theorem goL_len3 : ∀ (ps : List ByteArray) (i : Nat) (a : List Int), a.length = 3 → match goL verStep Fl.nxt i ps a with | .ret r => r = errV | .nxt l => l.length = 3
  | [], _, a, h => h
  | p :: ps, i, a, h => by
    simp only [goL]
    unfold verStep
    cases hn : numL (bl p) 3 with
    | none => rfl
    | some n => exact goL_len3 ps (i + 1) (a.set i n) (by simpa using h)

theorem ParseVersion_spec (s : ByteArray) (h : s.size ≤ 1048577) : spec_ParseVersion s = some (PV s) := by
  unfold spec_ParseVersion PV
  rw [l1Parts_spec s 46 h]
  simp only [Option.bind_some]
  by_cases hl : (partsS 46 s).length > 3
  · rw [if_pos (by simp; omega), if_pos hl]; rfl
  rw [if_neg (by simp; omega), if_neg hl]
  have key := loop_list (partsS 46 s) verStep Fl.nxt (fun i a => (a, (i : Int))) (fun _ a => a.length = 3) (b := spec_ParseVersion_l1b (partsS 46 s)) [0, 0, 0] (by
    intro i a hi ha
    unfold spec_ParseVersion_l1b verStep
    rw [if_pos (by simp; omega), idx_nat hi]
    simp only [Option.bind_some, l1Number_eq _ 3 (by omega)]
    cases hn : numL (bl (partsS 46 s)[i]) 3 with
    | none => exact ⟨rfl, fun a' h => by cases h⟩
    | some n =>
      simp only [Bool.not_true, Bool.false_eq_true, if_false]
      rw [idx_nat (show i < a.length by omega), w64_nat (by omega)]
      exact ⟨rfl, fun a' h => by cases h; simpa using ha⟩) (by
    intro a ha
    unfold spec_ParseVersion_l1b
    rw [if_neg (by simp)]) rfl
  unfold spec_ParseVersion_l1
  rw [show ((0 : Nat) : Int) = 0 from rfl] at key
  rw [key]
  have h3 := goL_len3 (partsS 46 s) 0 [0, 0, 0] rfl
  cases hg : goL verStep Fl.nxt 0 (partsS 46 s) [0, 0, 0] with
  | ret r => rfl
  | nxt l =>
    rw [hg] at h3
    match l, h3 with
    | [x, y, z], _ => rfl

theorem ParseVersion_impl (s : ByteArray) (h : s.size ≤ 1048577) : impl_ParseVersion s = some (PV s) := by
  unfold impl_ParseVersion PV
  have e := Split_impl s 46 h
  rw [show (((46 : UInt8).toNat : Nat) : Int) = 46 from rfl] at e
  rw [show bs [46] = ⟨#[46]⟩ from rfl, e]
  simp only [Option.bind_some]
  by_cases hl : (partsS 46 s).length > 3
  · rw [if_pos (by simp; omega), if_pos hl]; rfl
  rw [if_neg (by simp; omega), if_neg hl]
  have key := loop_list (partsS 46 s) verStep Fl.nxt (fun i a => (a, (i : Int))) (fun _ a => a.length = 3) (b := impl_ParseVersion_l1b (partsS 46 s)) [0, 0, 0] (by
    intro i a hi ha
    have hia : i < a.length := by omega
    unfold impl_ParseVersion_l1b verStep
    rw [if_pos (by simp; omega), idx_nat hi]
    simp only [Option.bind_some, number_eq _ 3 (by omega)]
    have ea : ∀ (b : List Int), b.length = 3 → idxa b 3 (i : Int) = idx b (i : Int) := fun b hb => if_pos hb
    rw [ea a ha, idx_nat hia]
    simp only [Option.bind_some, Int.toNat_natCast]
    rw [ea _ (by simpa using ha), idx_nat (by simpa using hia)]
    simp only [Option.bind_some, List.getElem_set_self]
    cases hn : numL (bl (partsS 46 s)[i]) 3 with
    | none => exact ⟨rfl, fun a' h => by cases h⟩
    | some n =>
      have := numL_nonneg hn
      simp only
      rw [if_neg (by simpa using this), w64_nat (by omega)]
      exact ⟨rfl, fun a' h => by cases h; simpa using ha⟩) (by
    intro a ha
    unfold impl_ParseVersion_l1b
    rw [if_neg (by simp)]) rfl
  unfold impl_ParseVersion_l1
  rw [show ((0 : Nat) : Int) = 0 from rfl] at key
  rw [key]
  have h3 := goL_len3 (partsS 46 s) 0 [0, 0, 0] rfl
  cases hg : goL verStep Fl.nxt 0 (partsS 46 s) [0, 0, 0] with
  | ret r => rfl
  | nxt l =>
    rw [hg] at h3
    match l, h3 with
    | [x, y, z], _ => rfl

/-! ### A term, read -/
def tw (p : Int → Bool) (l : List Int) : Nat := (l.takeWhile p).length

theorem tw_le (p : Int → Bool) : ∀ (l : List Int), tw p l ≤ l.length
  | [] => by simp [tw]
  | x :: l => by
    have := tw_le p l
    unfold tw at this ⊢
    rw [List.takeWhile_cons]
    split
    · simp; omega
    · simp

theorem tw_cons (p : Int → Bool) (x : Int) (l : List Int) : tw p (x :: l) = if p x then tw p l + 1 else 0 := by
  unfold tw
  rw [List.takeWhile_cons]
  split <;> simp

theorem loop_whileI (l : List Int) (p : Int → Bool) {b : Int → Option (Lp Int Int)} (hs : ∀ (i : Nat) (hi : i < l.length), b (i : Int) = some (if p l[i] then .go ((i + 1 : Nat) : Int) else .done (i : Int))) (he : b (l.length : Int) = some (.done (l.length : Int))) :
    ∀ (k i : Nat), i + k = l.length → loop b (i : Int) = some ((i + tw p (l.drop i) : Nat) : Int)
  | 0, i, h => by
    have e : i = l.length := by omega
    subst e
    rw [loop_eq, he, List.drop_length]
    rfl
  | k + 1, i, h => by
    have hi : i < l.length := by omega
    rw [loop_eq, hs i hi, List.drop_eq_getElem_cons hi, tw_cons]
    cases p l[i]
    · rfl
    · have := loop_whileI l p hs he k (i + 1) (by omega)
      simp only [if_true, Option.bind_some, Lp.elim]
      rw [this]
      congr 2
      omega

theorem loop_while (l : List Int) (p : Int → Bool) {b : Int → Option (Lp Int Int)} (hs : ∀ (i : Nat) (hi : i < l.length), b (i : Int) = some (if p l[i] then .go ((i + 1 : Nat) : Int) else .done (i : Int))) (he : b (l.length : Int) = some (.done (l.length : Int))) :
    loop b 0 = some ((tw p l : Nat) : Int) := by
  have := loop_whileI l p hs he l.length 0 (by omega)
  simpa using this

def not60 (c : Int) : Bool := c != 60

def nameN (s : ByteArray) : Nat := tw namB (bl s)

def nameP (s : ByteArray) : ByteArray := s.extract 0 (nameN s)

def restP (s : ByteArray) : ByteArray := s.extract (nameN s) s.size

def cutN (r : ByteArray) : Nat := tw not60 (bl r)

def highP (r : ByteArray) : Option Version := if cutN r < r.size then (if (PV (r.extract (cutN r + 1) r.size)).Code != 0 then none else some (PV (r.extract (cutN r + 1) r.size)).Version) else some topV

def lowT (r : ByteArray) : ByteArray := r.extract 0 (cutN r)

def lowP (r : ByteArray) : Option Version := if seq (lowT r) (bs []) then some zeroV else if decide ((lowT r).size < 2) || !(seq ((lowT r).extract 0 2) (bs [62, 61])) then none else
  (if (PV ((lowT r).extract 2 (lowT r).size)).Code != 0 then none else some (PV ((lowT r).extract 2 (lowT r).size)).Version)

def noTerm : Term := { Name := ByteArray.empty, Low := zeroV, High := zeroV }

def errT (c : Int) : TermResult := { Code := c, Term := noTerm }

def endT (t : Term) : TermResult := if TF t != 0 then errT (TF t) else { Code := 0, Term := t }

/-- The term that a text tells. -/
def PTm (s : ByteArray) : TermResult := if NF (nameP s) != 0 then errT 5 else match highP (restP s), lowP (restP s) with
  | some h, some l => endT { Name := nameP s, Low := l, High := h }
  | _, _ => errT 5

theorem extract_size {s : ByteArray} {i j : Nat} (h : i ≤ j) (hj : j ≤ s.size) : (s.extract i j).size = j - i := by
  rw [← bl_length, bl_extract]
  simp
  rw [bl_length]
  omega

theorem nameN_le (s : ByteArray) : nameN s ≤ s.size := by
  rw [← bl_length]; exact tw_le _ _

theorem cutN_le (s : ByteArray) : cutN s ≤ s.size := by
  rw [← bl_length]; exact tw_le _ _

theorem ParseTerm_spec (s : ByteArray) (h : s.size ≤ 1048577) : spec_ParseTerm s = some (PTm s) := by
  have k1 : spec_ParseTerm_l1 s 0 = some ((nameN s : Nat) : Int) := by
    unfold spec_ParseTerm_l1 nameN
    refine loop_while (bl s) namB (fun i hi => ?_) ?_
    · have hs : i < s.size := by rw [← bl_length]; exact hi
      unfold spec_ParseTerm_l1b
      rw [if_pos (by simp; omega), bidx_nat hi]
      simp only [Option.bind_some, l1Name_eq]
      rw [w64_nat (by omega)]
      cases namB (bl s)[i] <;> rfl
    · unfold spec_ParseTerm_l1b
      rw [if_neg (by rw [bl_length]; simp)]
      rfl
  have hn := nameN_le s
  have e1 : ssub s 0 ((nameN s : Nat) : Int) = some (nameP s) := ssub_of (Nat.zero_le _) hn
  have e2 : ssub s ((nameN s : Nat) : Int) (s.size : Int) = some (restP s) := ssub_of hn (Nat.le_refl _)
  unfold spec_ParseTerm spec_AnyTerm spec_l1Top
  rw [k1]
  simp only [Option.bind_some]
  rw [e1]
  simp only [Option.bind_some, NameFault_spec]
  unfold PTm
  cases hN : NF (nameP s) != 0
  case true => rfl
  simp only [Bool.false_eq_true, if_false]
  rw [e2]
  simp only [Option.bind_some]
  generalize hT : ({ Name := nameP s, Low := { A := 0, B := 0, C := 0 }, High := { A := 1000, B := 0, C := 0 } } : Term) = T0
  generalize hr : restP s = r
  have hrs : r.size ≤ 1048577 := by
    rw [← hr]
    unfold restP
    rw [extract_size hn (Nat.le_refl _)]
    omega
  have k2 : spec_ParseTerm_l2 T0 r 0 = some ((cutN r : Nat) : Int) := by
    unfold spec_ParseTerm_l2 cutN
    refine loop_while (bl r) not60 (fun i hi => ?_) ?_
    · have hs : i < r.size := by rw [← bl_length]; exact hi
      unfold spec_ParseTerm_l2b not60
      rw [if_pos (by simp; omega), bidx_nat hi]
      simp only [Option.bind_some]
      rw [w64_nat (by omega)]
      cases (bl r)[i] != 60 <;> rfl
    · unfold spec_ParseTerm_l2b
      rw [if_neg (by rw [bl_length]; simp)]
      rfl
  rw [k2]
  have hc := cutN_le r
  have elow : ssub r 0 ((cutN r : Nat) : Int) = some (lowT r) := ssub_of (Nat.zero_le _) hc
  have hlow : (lowT r).size = cutN r := by
    unfold lowT
    rw [extract_size (Nat.zero_le _) hc]
    omega
  simp only [Option.bind_some]
  -- the high part
  have eh : (if decide (((cutN r : Nat) : Int) < (r.size : Int)) then ((ssub r (w64 (((cutN r : Nat) : Int) + 1)) (r.size : Int)).bind fun x40 => (spec_ParseVersion x40).bind fun x42 => if x42.Code != 0 then (some (Fl.ret (errT 5))) else (some (Fl.nxt (x42.Version.A, x42.Version.B, x42.Version.C))))
      else (some (Fl.nxt ((1000 : Int), (0 : Int), (0 : Int))))) = some (match highP r with | some v => Fl.nxt (v.A, v.B, v.C) | none => Fl.ret (errT 5)) := by
    unfold highP
    by_cases hlt : cutN r < r.size
    · rw [if_pos (by simp; omega), if_pos hlt, w64_nat (by omega)]
      have e3 : ssub r ((cutN r + 1 : Nat) : Int) (r.size : Int) = some (r.extract (cutN r + 1) r.size) := ssub_of (by omega) (Nat.le_refl _)
      rw [e3]
      simp only [Option.bind_some]
      rw [ParseVersion_spec _ (by rw [extract_size (by omega) (Nat.le_refl _)]; omega)]
      simp only [Option.bind_some]
      cases (PV (r.extract (cutN r + 1) r.size)).Code != 0 <;> rfl
    · rw [if_neg (by simp; omega), if_neg hlt]
      rfl
  have eh' := eh
  unfold errT noTerm zeroV at eh'
  rw [eh']
  cases hH : highP r with
  | none => rfl
  | some v =>
    simp only [Option.bind_some, Fl.go]
    rw [elow]
    simp only [Option.bind_some]
    have el : (if !(seq (lowT r) (bs [])) then ((if decide (((lowT r).size : Int) < 2) then (some true) else ((ssub (lowT r) 0 2).bind fun x50 => some (!(seq x50 (bs [62, 61]))))).bind fun v52 => if v52 then (some (Fl.ret (errT 5))) else
          ((ssub (lowT r) 2 ((lowT r).size : Int)).bind fun x54 => (spec_ParseVersion x54).bind fun x56 => if x56.Code != 0 then (some (Fl.ret (errT 5))) else (some (Fl.nxt (x56.Version.A, x56.Version.B, x56.Version.C)))))
        else (some (Fl.nxt ((0 : Int), (0 : Int), (0 : Int))))) = some (match lowP r with | some v => Fl.nxt (v.A, v.B, v.C) | none => Fl.ret (errT 5)) := by
      unfold lowP
      cases hq : seq (lowT r) (bs [])
      · simp only [Bool.not_false, if_true, Bool.false_eq_true, if_false]
        by_cases h2 : (lowT r).size < 2
        · rw [if_pos (by simp; omega)]
          simp [h2]
        · have e5 : ssub (lowT r) ((0 : Nat) : Int) ((2 : Nat) : Int) = some ((lowT r).extract 0 2) := ssub_of (by omega) (by omega)
          rw [show ((0 : Nat) : Int) = 0 from rfl, show ((2 : Nat) : Int) = 2 from rfl] at e5
          rw [if_neg (by simp; omega), e5]
          simp only [Option.bind_some, h2, decide_false, Bool.false_or]
          cases seq ((lowT r).extract 0 2) (bs [62, 61])
          · rfl
          · have e6 : ssub (lowT r) ((2 : Nat) : Int) ((lowT r).size : Int) = some ((lowT r).extract 2 (lowT r).size) := ssub_of (by omega) (Nat.le_refl _)
            rw [show ((2 : Nat) : Int) = 2 from rfl] at e6
            simp only [Bool.not_true, Bool.false_eq_true, if_false]
            rw [e6]
            simp only [Option.bind_some]
            rw [ParseVersion_spec _ (by rw [extract_size (by omega) (Nat.le_refl _)]; omega)]
            simp only [Option.bind_some]
            cases (PV ((lowT r).extract 2 (lowT r).size)).Code != 0 <;> rfl
      · rfl
    have el' := el
    unfold errT noTerm zeroV at el'
    rw [el']
    cases hL : lowP r with
    | none => rfl
    | some u =>
      simp only [Option.bind_some, Fl.go]
      rw [TermFault_spec]
      simp only [Option.bind_some]
      unfold endT
      have : ({ Name := nameP s, Low := { A := u.A, B := u.B, C := u.C }, High := { A := v.A, B := v.B, C := v.C } } : Term) = { Name := nameP s, Low := u, High := v } := rfl
      rw [this]
      cases TF { Name := nameP s, Low := u, High := v } != 0 <;> rfl

theorem CutPrefix_impl (s p : ByteArray) : strings_CutPrefix s p = some (if begins s p then (s.extract p.size s.size, true) else (s, false)) := by
  unfold strings_CutPrefix internal_stringslite_CutPrefix internal_stringslite_HasPrefix begins
  by_cases h : p.size ≤ s.size
  · have e1 : ssub s ((0 : Nat) : Int) (p.size : Int) = some (s.extract 0 p.size) := ssub_of (Nat.zero_le _) h
    have e2 : ssub s (p.size : Int) (s.size : Int) = some (s.extract p.size s.size) := ssub_of h (Nat.le_refl _)
    rw [show ((0 : Nat) : Int) = 0 from rfl] at e1
    rw [if_pos (by simp; omega), e1]
    simp only [Option.bind_some, h, decide_true, Bool.true_and]
    cases seq (s.extract 0 p.size) p
    · rfl
    · simp only [Bool.not_true, Bool.false_eq_true, if_false]
      rw [e2]
      rfl
  · rw [if_neg (by simp; omega)]
    simp [h]

theorem indexByte_tw (c : UInt8) : ∀ (l : List UInt8), Lib.indexByte l c = if tw (fun x => x != (c.toNat : Int)) (l.map (fun b => (b.toNat : Int))) = l.length then -1 else (tw (fun x => x != (c.toNat : Int)) (l.map (fun b => (b.toNat : Int))) : Int)
  | [] => rfl
  | b :: l => by
    have ih := indexByte_tw c l
    have hle := tw_le (fun x => x != (c.toNat : Int)) (l.map (fun b => (b.toNat : Int)))
    rw [List.length_map] at hle
    rw [Lib.indexByte, List.map_cons, tw_cons]
    by_cases h : b = c
    · subst h
      simp
    · have h' : ((b.toNat : Int) != (c.toNat : Int)) = true := by
        simp only [bne_iff_ne, ne_eq]
        intro e
        exact h (UInt8.toNat_inj.1 (by omega))
      rw [if_neg (by simpa using h)]
      simp only [h', if_true, List.length_cons]
      rw [ih]
      by_cases he : tw (fun x => x != (c.toNat : Int)) (l.map (fun b => (b.toNat : Int))) = l.length
      · rw [he]
        simp
      · rw [if_neg he, if_neg (by simp), if_neg (by omega)]
        omega

theorem begins_bl2 (s p : ByteArray) : begins s p = decide ((bl s).take (bl p).length = bl p) := by
  unfold begins
  rw [seq_bl, bl_extract, List.drop_zero, Nat.sub_zero, ← bl_length p, ← bl_length s]
  by_cases h : (bl p).length ≤ (bl s).length
  · simp [h]
  · have : ¬ ((bl s).take (bl p).length = bl p) := by
      intro e
      have := congrArg List.length e
      simp at this
      omega
    simp [h, this]

theorem ParseTerm_impl (s : ByteArray) (h : s.size ≤ 1048577) : impl_ParseTerm s = some (PTm s) := by
  have k1 : impl_ParseTerm_l1 s 0 = some ((nameN s : Nat) : Int) := by
    unfold impl_ParseTerm_l1 nameN
    refine loop_while (bl s) namB (fun i hi => ?_) ?_
    · have hs : i < s.size := by rw [← bl_length]; exact hi
      unfold impl_ParseTerm_l1b
      rw [if_pos (by simp; omega), bidx_nat hi]
      simp only [Option.bind_some, isNameByte_eq]
      rw [w64_nat (by omega)]
      cases namB (bl s)[i] <;> rfl
    · unfold impl_ParseTerm_l1b
      rw [if_neg (by rw [bl_length]; simp)]
      rfl
  have hn := nameN_le s
  have e1 : ssub s 0 ((nameN s : Nat) : Int) = some (nameP s) := ssub_of (Nat.zero_le _) hn
  have e2 : ssub s ((nameN s : Nat) : Int) (s.size : Int) = some (restP s) := ssub_of hn (Nat.le_refl _)
  unfold impl_ParseTerm impl_AnyTerm impl_top
  rw [k1]
  simp only [Option.bind_some]
  rw [e1]
  simp only [Option.bind_some]
  rw [e2]
  simp only [Option.bind_some, NameFault_impl]
  unfold PTm
  cases hN : NF (nameP s) != 0
  case true => rfl
  simp only [Bool.false_eq_true, if_false, CutPrefix_impl, Option.bind_some]
  generalize hr : restP s = r
  have hrs : r.size ≤ 1048577 := by
    rw [← hr]
    unfold restP
    rw [extract_size hn (Nat.le_refl _)]
    omega
  have hlr := bl_length r
  have b2 : bl (bs [62, 61]) = [62, 61] := bl_bs _
  have b1 : bl (bs [60]) = [60] := bl_bs _
  have s2 : (bs [62, 61]).size = 2 := rfl
  have s1 : (bs [60]).size = 1 := rfl
  have fin : ∀ (l u : Version), ((impl_TermFault ({ Name := nameP s, Low := ({ A := l.A, B := l.B, C := l.C } : Version), High := ({ A := u.A, B := u.B, C := u.C } : Version) } : Term)).bind fun x50 => if x50 != 0 then (some (errT x50)) else (some ({ Code := 0, Term := ({ Name := nameP s, Low := ({ A := l.A, B := l.B, C := l.C } : Version), High := ({ A := u.A, B := u.B, C := u.C } : Version) } : Term) } : TermResult))) =
      some (endT { Name := nameP s, Low := l, High := u }) := by
    intro l u
    rw [TermFault_impl]
    simp only [Option.bind_some]
    unfold endT
    cases TF { Name := nameP s, Low := l, High := u } != 0 <;> rfl
  have fin' := fin
  unfold errT noTerm zeroV at fin'
  cases hb : begins r (bs [62, 61])
  · -- no lower end
    simp only [Bool.false_eq_true, if_false, Option.bind_some, Fl.go]
    cases hb1 : begins r (bs [60])
    · simp only [Bool.false_eq_true, if_false, Option.bind_some, Fl.go]
      cases hq : seq r (bs [])
      · -- something else
        have hne : bl r ≠ [] := by
          intro e
          rw [seq_bl, e, bl_nil] at hq
          simp at hq
        have hcut : 1 ≤ cutN r := by
          unfold cutN
          cases hx : bl r with
          | nil => exact absurd hx hne
          | cons x l =>
            rw [tw_cons]
            rw [begins_bl2, b1, hx] at hb1
            have : not60 x = true := by
              unfold not60
              simpa using hb1
            rw [this]
            simp
        have hlow : lowP r = none := by
          have hls : (lowT r).size = cutN r := by
            unfold lowT
            rw [extract_size (Nat.zero_le _) (cutN_le r)]
            omega
          unfold lowP
          have hs0 : seq (lowT r) (bs []) = false := by
            cases hs : seq (lowT r) (bs []) with
            | false => rfl
            | true =>
              have := congrArg ByteArray.size (seq_iff.1 hs)
              rw [hls] at this
              have hz : (bs []).size = 0 := rfl
              omega
          rw [hs0, if_neg (by simp), if_pos]
          by_cases h2 : (lowT r).size < 2
          · simp [h2]
          · simp only [h2, decide_false, Bool.false_or]
            rw [begins_bl2, b2] at hb
            rw [seq_bl, b2, bl_extract, lowT, bl_extract]
            simp only [List.drop_zero, Nat.sub_zero, List.take_take]
            rw [Nat.min_eq_left (by omega)]
            simpa using hb
        rw [hlow]
        cases highP r <;> rfl
      · -- nothing
        have he : bl r = [] := by
          rw [seq_bl, bl_nil] at hq
          simpa using hq
        have hz : r.size = 0 := by rw [← hlr, he]; rfl
        have hc0 : cutN r = 0 := by unfold cutN; rw [he]; rfl
        have h1 : highP r = some topV := by
          unfold highP
          rw [if_neg (by omega)]
        have h2 : lowP r = some zeroV := by
          unfold lowP
          have : seq (lowT r) (bs []) = true := by
            rw [seq_bl, bl_nil, lowT, bl_extract, he]
            simp
          rw [this]
          rfl
        rw [h1, h2]
        exact fin' zeroV topV
    · -- an upper end alone
      have hx := hb1
      rw [begins_bl2, b1] at hx
      simp only [decide_eq_true_eq] at hx
      have hc0 : cutN r = 0 := by
        unfold cutN
        cases hy : bl r with
        | nil => rfl
        | cons x l =>
          rw [hy] at hx
          simp at hx
          rw [tw_cons, hx]
          rfl
      have hpos : 0 < r.size := by
        rw [← hlr]
        cases hy : bl r with
        | nil => rw [hy] at hx; simp at hx
        | cons x l => simp
      have h2 : lowP r = some zeroV := by
        unfold lowP
        have : seq (lowT r) (bs []) = true := by
          rw [seq_bl, bl_nil, lowT, bl_extract, hc0]
          simp
        rw [this]
        rfl
      rw [h2]
      simp only [if_true]
      rw [s1, ParseVersion_impl _ (by rw [extract_size (by omega) (Nat.le_refl _)]; omega)]
      simp only [Option.bind_some]
      have hH : highP r = (if (PV (r.extract 1 r.size)).Code != 0 then none else some (PV (r.extract 1 r.size)).Version) := by
        unfold highP
        rw [if_pos (by omega), hc0]
      rw [hH]
      cases (PV (r.extract 1 r.size)).Code != 0
      · simp only [Bool.false_eq_true, if_false, Option.bind_some, Fl.go, seq_self, Bool.not_true]
        exact fin' zeroV (PV (r.extract 1 r.size)).Version
      · rfl
  · -- a lower end
    have hx := hb
    rw [begins_bl2, b2] at hx
    simp only [decide_eq_true_eq] at hx
    have hr2 : 2 ≤ r.size := by
      have := congrArg List.length hx
      simp at this
      omega
    simp only [if_true]
    rw [s2]
    generalize hq : r.extract 2 r.size = q
    have hbq : bl q = (bl r).drop 2 := by
      rw [← hq, bl_extract]
      rw [List.take_of_length_le (by simp; omega)]
    have hqs : q.size = r.size - 2 := by rw [← hq, extract_size hr2 (Nat.le_refl _)]
    have hbr : bl r = 62 :: 61 :: bl q := by
      rw [hbq]
      have := List.take_append_drop 2 (bl r)
      rw [show (bl r).take 2 = [62, 61] from hx] at this
      exact this.symm
    have hcut : cutN r = cutN q + 2 := by
      unfold cutN
      rw [hbr, tw_cons, tw_cons]
      simp [not60]
    have hcq := cutN_le q
    have hix : strings_IndexByte q 60 = some (if cutN q = q.size then -1 else (cutN q : Int)) := by
      unfold strings_IndexByte
      have := indexByte_tw 60 q.data.toList
      rw [bl_toList] at this
      have e60 : (60 : Int).toNat.toUInt8 = 60 := rfl
      rw [e60, this]
      rfl
    rw [hix]
    simp only [Option.bind_some]
    have hv33 : (if decide ((if cutN q = q.size then (-1 : Int) else (cutN q : Int)) < 0) then (some (q.size : Int)) else some (if cutN q = q.size then (-1 : Int) else (cutN q : Int))) = some (cutN q : Int) := by
      by_cases e : cutN q = q.size
      · rw [if_pos e, if_pos (by decide), e]
      · rw [if_neg e, if_neg (by simp)]
    rw [hv33]
    simp only [Option.bind_some]
    have e3 : ssub q 0 (cutN q : Int) = some (q.extract 0 (cutN q)) := ssub_of (Nat.zero_le _) hcq
    have e4 : ssub q (cutN q : Int) (q.size : Int) = some (q.extract (cutN q) q.size) := ssub_of hcq (Nat.le_refl _)
    rw [e3]
    simp only [Option.bind_some]
    rw [ParseVersion_impl _ (by rw [extract_size (Nat.zero_le _) hcq]; omega)]
    simp only [Option.bind_some]
    rw [e4]
    simp only [Option.bind_some]
    -- the reference's lower end
    have hlt : lowT r = bs [62, 61] ++ q.extract 0 (cutN q) := by
      refine bl_inj.1 ?_
      rw [lowT, bl_extract, bl_append, bl_extract, hbr, hcut, b2]
      rfl
    have hls : (lowT r).size = cutN q + 2 := by
      rw [hlt, ba_size, s2, extract_size (Nat.zero_le _) hcq]
      omega
    have hlow : lowP r = (if (PV (q.extract 0 (cutN q))).Code != 0 then none else some (PV (q.extract 0 (cutN q))).Version) := by
      have hs0 : seq (lowT r) (bs []) = false := by
        cases hs : seq (lowT r) (bs []) with
        | false => rfl
        | true =>
          have := congrArg ByteArray.size (seq_iff.1 hs)
          have hz : (bs []).size = 0 := rfl
          omega
      have ha : seq ((lowT r).extract 0 2) (bs [62, 61]) = true := by
        rw [seq_bl, bl_extract, hlt, bl_append, b2]
        simp
      have hc : (lowT r).extract 2 (lowT r).size = q.extract 0 (cutN q) := by
        refine bl_inj.1 ?_
        rw [bl_extract, hls, hlt, bl_append, b2]
        simp only [List.cons_append, List.nil_append, List.drop_succ_cons, List.drop_zero, Nat.add_sub_cancel]
        rw [List.take_of_length_le]
        rw [bl_length, extract_size (Nat.zero_le _) hcq]
        omega
      unfold lowP
      rw [hs0, ha, hc, if_neg (by simp), if_neg (by simp; omega)]
    have hhigh : highP r = (if cutN q < q.size then (if (PV (q.extract (cutN q + 1) q.size)).Code != 0 then none else some (PV (q.extract (cutN q + 1) q.size)).Version) else some topV) := by
      have hc : r.extract (cutN r + 1) r.size = q.extract (cutN q + 1) q.size := by
        refine bl_inj.1 ?_
        rw [bl_extract, bl_extract, hbr, hcut, hqs]
        rw [show cutN q + 2 + 1 = (cutN q + 1) + 1 + 1 by omega]
        simp only [List.drop_succ_cons]
        congr 1
        omega
      unfold highP
      rw [hc]
      by_cases e : cutN q < q.size
      · rw [if_pos (by omega), if_pos e]
      · rw [if_neg (by omega), if_neg e]
    rw [hlow, hhigh]
    cases hv : (PV (q.extract 0 (cutN q))).Code != 0
    case true =>
      simp only [if_true]
      split <;> rename_i hh1 hh2
      · cases hh2
      · rfl
    simp only [Bool.false_eq_true, if_false, Option.bind_some, Fl.go]
    generalize hw : q.extract (cutN q) q.size = w
    have hbw : bl w = (bl q).drop (cutN q) := by
      rw [← hw, bl_extract, List.take_of_length_le]
      rw [List.length_drop, bl_length]
      exact Nat.le_refl _
    have hws : w.size = q.size - cutN q := by rw [← hw, extract_size hcq (Nat.le_refl _)]
    by_cases hlt2 : cutN q < q.size
    · have hhead : (bl q)[cutN q]? = some 60 := by
        have key : ∀ (l : List Int), tw not60 l < l.length → l[tw not60 l]? = some 60 := by
          intro l
          induction l with
          | nil => intro h; simp [tw] at h
          | cons x l ih =>
            intro h
            rw [tw_cons] at h ⊢
            cases hx : not60 x
            · unfold not60 at hx
              simp at hx
              rw [hx]
              simp
            · rw [hx] at h
              simp only [if_true, List.length_cons] at h ⊢
              rw [List.getElem?_cons_succ]
              exact ih (by omega)
        exact key (bl q) (by rw [bl_length]; exact hlt2)
      have hbeg : begins w (bs [60]) = true := by
        rw [begins_bl2, b1, hbw]
        have : ((bl q).drop (cutN q)).take 1 = [60] := by
          obtain ⟨hi, hv⟩ := List.getElem?_eq_some_iff.1 hhead
          rw [List.drop_eq_getElem_cons hi, hv]
          rfl
        simpa using this
      rw [hbeg, if_pos hlt2]
      simp only [if_true]
      have he : w.extract (bs [60]).size w.size = q.extract (cutN q + 1) q.size := by
        refine bl_inj.1 ?_
        rw [bl_extract, bl_extract, hbw, s1, List.drop_drop, hws]
        congr 1
      rw [he, ParseVersion_impl _ (by rw [extract_size (by omega) (Nat.le_refl _)]; omega)]
      simp only [Option.bind_some]
      cases hv2 : (PV (q.extract (cutN q + 1) q.size)).Code != 0
      · simp only [Bool.false_eq_true, if_false, Option.bind_some, Fl.go, seq_self, Bool.not_true]
        exact fin' (PV (q.extract 0 (cutN q))).Version (PV (q.extract (cutN q + 1) q.size)).Version
      · rfl
    · have hbw0 : bl w = [] := by
        rw [hbw, List.drop_eq_nil_of_le]
        rw [bl_length]
        omega
      have hbeg : begins w (bs [60]) = false := by
        rw [begins_bl2, b1, hbw0]
        rfl
      have hsw : seq w (bs []) = true := by
        rw [seq_bl, bl_nil, hbw0]
        rfl
      rw [hbeg, if_neg hlt2]
      simp only [Bool.false_eq_true, if_false, Option.bind_some, Fl.go]
      rw [hsw]
      exact fin' (PV (q.extract 0 (cutN q))).Version topV

/-! ### The terms of a text -/
theorem PTm_right {s : ByteArray} (h : (PTm s).Code = 0) : TF (PTm s).Term = 0 := by
  unfold PTm at h ⊢
  split at h
  · simp [errT] at h
  · rename_i h1
    rw [if_neg h1]
    split at h
    · unfold endT at h ⊢
      split at h
      · rename_i h2
        simp only [errT] at h
        rw [h] at h2
        simp at h2
      · rename_i h2
        rw [if_neg h2]
        simpa using h2
    · simp [errT] at h

/-- Has an earlier one this name? -/
def twiceB (out : List Term) (t : Term) : Bool := out.any (fun o => seq o.Name t.Name)

def anyTwice : List Term → List Term → Bool
  | _, [] => false
  | out, t :: l => twiceB out t || anyTwice (out ++ [t]) l

/-- All texts, read; none: one of them tells no term. -/
def readL : List ByteArray → Option (List Term)
  | [] => some []
  | s :: l => if (PTm s).Code != 0 then none else (readL l).map ((PTm s).Term :: ·)

/-- The terms of a text; none: it is none. -/
def rootsP (s : ByteArray) : Option (List Term) := match readL (linesS s) with
  | none => none
  | some l => if l.length ≤ 8 ∧ anyTwice [] l = false ∧ rootsS l = s then some l else none

theorem readL_right : ∀ {ps : List ByteArray} {l : List Term}, readL ps = some l → (∀ t ∈ l, TF t = 0) ∧ l.length = ps.length
  | [], l, h => by cases h; simp
  | p :: ps, l, h => by
    simp only [readL] at h
    split at h
    · cases h
    · rename_i h1
      obtain ⟨l', e, rfl⟩ := Option.map_eq_some_iff.1 h
      obtain ⟨h2, h3⟩ := readL_right e
      refine ⟨fun t ht => ?_, by simp [h3]⟩
      rcases List.mem_cons.1 ht with rfl | ht
      · exact PTm_right (by simpa using h1)
      · exact h2 t ht

/-- The reference stops at the first that is wrong or twice. -/
def goR : List Term → List ByteArray → Fl (List Term × Bool) (List Term)
  | out, [] => .nxt out
  | out, s :: ps => if (PTm s).Code != 0 then .ret (out, false) else if twiceB out (PTm s).Term then .ret (out, false) else goR (out ++ [(PTm s).Term]) ps

theorem goR_eq : ∀ (ps : List ByteArray) (out : List Term), match readL ps with
    | none => ∃ o, goR out ps = .ret (o, false)
    | some l => (anyTwice out l = true → ∃ o, goR out ps = .ret (o, false)) ∧ (anyTwice out l = false → goR out ps = .nxt (out ++ l))
  | [], out => by simp [readL, anyTwice, goR]
  | s :: ps, out => by
    have ih := goR_eq ps (out ++ [(PTm s).Term])
    simp only [readL, goR]
    cases h : (PTm s).Code != 0
    · simp only [Bool.false_eq_true, if_false]
      cases hr : readL ps with
      | none =>
        rw [hr] at ih
        simp only [Option.map_none]
        cases twiceB out (PTm s).Term
        · exact ih
        · exact ⟨out, rfl⟩
      | some l =>
        rw [hr] at ih
        simp only [Option.map_some, anyTwice]
        cases twiceB out (PTm s).Term
        · simp only [Bool.false_or, Bool.false_eq_true, if_false]
          refine ⟨ih.1, fun h2 => ?_⟩
          rw [ih.2 h2, List.append_assoc]
          rfl
        · exact ⟨fun _ => ⟨out, rfl⟩, fun h2 => by simp at h2⟩
    · exact ⟨out, rfl⟩

theorem twice_loop {R : Type} (out : List Term) (n : ByteArray) (r : R) (h : out.length ≤ 1048576) {b : Int → Option (Lp Int (Fl R Unit))}
    (hs : ∀ (i : Nat) (hi : i < out.length), b (i : Int) = some (if seq out[i].Name n then .done (.ret r) else .go ((i + 1 : Nat) : Int))) (he : b (out.length : Int) = some (.done (.nxt ()))) :
    loop b 0 = some (if out.any (fun o => seq o.Name n) then .ret r else .nxt ()) := by
  have key := loop_scan out (fun _ o => if seq o.Name n then some r else none) (b := b) (fun i hi => by
    rw [hs i hi]
    cases seq out[i].Name n <;> rfl) he
  rw [key, scan_const]
  cases out.any (fun o => seq o.Name n) <;> rfl

theorem l8Roots_loop (s : ByteArray) (ps : List ByteArray) (hps : ∀ p ∈ ps, p.size ≤ 1048577) (hl : ps.length ≤ 100000) : ∀ (k i : Nat) (out : List Term), i + k = ps.length → out.length ≤ i → loop (spec_l8Roots_l2b s ps) (out, (i : Int)) = some (goR out (ps.drop i))
  | 0, i, out, hk, ho => by
    have e : i = ps.length := by omega
    subst e
    rw [loop_eq]
    unfold spec_l8Roots_l2b
    rw [if_neg (by simp), List.drop_length]
    rfl
  | k + 1, i, out, hk, ho => by
    have hi : i < ps.length := by omega
    have ih := l8Roots_loop s ps hps hl k (i + 1) (out ++ [(PTm ps[i]).Term]) (by omega) (by simp; omega)
    rw [loop_eq, List.drop_eq_getElem_cons hi]
    conv => lhs; unfold spec_l8Roots_l2b
    rw [if_pos (by simp; omega), idx_nat hi]
    simp only [Option.bind_some, ParseTerm_spec _ (hps _ (List.getElem_mem hi)), goR]
    cases h : (PTm ps[i]).Code != 0
    · simp only [Bool.false_eq_true, if_false]
      have key := twice_loop out (PTm ps[i]).Term.Name (out, false) (by omega) (b := spec_l8Roots_l1b s ps (out, (i : Int)) (PTm ps[i])) (by
        intro j hj
        unfold spec_l8Roots_l1b
        rw [if_pos (by simp; omega)]
        simp only
        rw [idx_nat hj]
        simp only [Option.bind_some]
        rw [w64_nat (by omega)]
        cases seq out[j].Name (PTm ps[i]).Term.Name <;> rfl) (by
        unfold spec_l8Roots_l1b
        rw [if_neg (by simp)])
      unfold spec_l8Roots_l1
      rw [key]
      have : out.any (fun o => seq o.Name (PTm ps[i]).Term.Name) = twiceB out (PTm ps[i]).Term := rfl
      rw [this]
      cases twiceB out (PTm ps[i]).Term
      · simp only [Bool.false_eq_true, if_false, Option.bind_some, Fl.go]
        rw [app_of (by simp; omega) (by simp; omega), w64_nat (by omega)]
        simp only [Option.bind_some, Lp.elim]
        exact ih
      · rfl
    · rfl

theorem l8Roots_spec (s : ByteArray) (h : s.size ≤ 90000) : ∃ o, spec_l8Roots s = some (match rootsP s with | some l => (l, true) | none => (o, false)) := by
  have hlen := linesS_len s
  have hsz : ∀ p ∈ linesS s, p.size ≤ 1048577 := fun p hp => by have := linesS_size s p hp; omega
  have key := l8Roots_loop s (linesS s) hsz (by omega) (linesS s).length 0 [] (by omega) (by simp)
  rw [List.drop_zero, show ((0 : Nat) : Int) = 0 from rfl] at key
  unfold spec_l8Roots
  rw [l2Lines_spec s (by omega)]
  simp only [Option.bind_some]
  unfold spec_l8Roots_l2
  rw [key]
  have hg := goR_eq (linesS s) []
  unfold rootsP
  cases hr : readL (linesS s) with
  | none =>
    rw [hr] at hg
    obtain ⟨o, e⟩ := hg
    rw [e]
    exact ⟨o, rfl⟩
  | some l =>
    rw [hr] at hg
    simp only at hg ⊢
    cases ha : anyTwice [] l
    · have hg := hg.2 ha
      simp only [List.nil_append] at hg
      rw [hg]
      simp only [Option.bind_some, Fl.go, true_and]
      obtain ⟨h1, h2⟩ := readL_right hr
      by_cases h8 : l.length ≤ 8
      · rw [if_pos (by simp; omega), l8Text_spec l (by omega) h1]
        simp only [Option.bind_some, h8, true_and]
        by_cases he : rootsS l = s
        · rw [if_pos he, he, seq_self]
          exact ⟨[], rfl⟩
        · rw [if_neg he]
          have : seq (rootsS l) s = false := by
            rw [seq_eq]; simpa using he
          rw [this]
          exact ⟨l, rfl⟩
      · rw [if_neg (by simp; omega), if_neg (fun e => h8 e.1)]
        exact ⟨l, rfl⟩
    · obtain ⟨o, e⟩ := hg.1 ha
      rw [e, if_neg (by simp)]
      exact ⟨o, rfl⟩

/-! the program's -/
theorem roots_loop (x2 : List Int × Bool) (ps : List ByteArray) (hps : ∀ p ∈ ps, p.size ≤ 1048577) (hl : ps.length ≤ 100000) : ∀ (k i : Nat) (out : List Term), i + k = ps.length → out.length ≤ i →
    loop (impl_Disk_roots_l1b x2 ps) (out, (i : Int)) = some (match readL (ps.drop i) with | none => .ret ([], 5) | some l => .nxt (out ++ l))
  | 0, i, out, hk, ho => by
    have e : i = ps.length := by omega
    subst e
    rw [loop_eq]
    unfold impl_Disk_roots_l1b
    rw [if_neg (by simp), List.drop_length]
    simp [readL, Lp.elim]
  | k + 1, i, out, hk, ho => by
    have hi : i < ps.length := by omega
    have ih := roots_loop x2 ps hps hl k (i + 1) (out ++ [(PTm ps[i]).Term]) (by omega) (by simp; omega)
    rw [loop_eq, List.drop_eq_getElem_cons hi]
    conv => lhs; unfold impl_Disk_roots_l1b
    rw [if_pos (by simp; omega), idx_nat hi]
    simp only [Option.bind_some, ParseTerm_impl _ (hps _ (List.getElem_mem hi)), readL]
    cases h : (PTm ps[i]).Code != 0
    · simp only [Bool.false_eq_true, if_false]
      rw [app_of (by simp; omega) (by simp; omega), w64_nat (by omega)]
      simp only [Option.bind_some, Lp.elim]
      refine Eq.trans ih ?_
      cases readL (ps.drop (i + 1)) with
      | none => rfl
      | some l => simp
    · rfl

theorem twoOfOne_loop (l : List Term) (h : l.length ≤ 100000) : ∀ (k i : Nat), i + k = l.length → loop (impl_twoOfOne_l1b l) (i : Int) = some (if anyTwice (l.take i) (l.drop i) then .ret true else .nxt ())
  | 0, i, hk => by
    have e : i = l.length := by omega
    subst e
    rw [loop_eq]
    unfold impl_twoOfOne_l1b
    rw [if_neg (by simp), List.drop_length]
    rfl
  | k + 1, i, hk => by
    have hi : i < l.length := by omega
    have ih := twoOfOne_loop l h k (i + 1) (by omega)
    have hb : impl_twoOfOne_l1b l (i : Int) = some (if twiceB (l.take i) l[i] then .done (.ret true) else .go ((i + 1 : Nat) : Int)) := by
      unfold impl_twoOfOne_l1b
      rw [if_pos (by simp; omega), idx_nat hi]
      simp only [Option.bind_some]
      have e0 : lsub l ((0 : Nat) : Int) (i : Int) = some ((l.drop 0).take (i - 0)) := lsub_of (Nat.zero_le _) (by omega)
      rw [show ((0 : Nat) : Int) = 0 from rfl, List.drop_zero, Nat.sub_zero] at e0
      rw [e0]
      simp only [Option.bind_some]
      have ec : slices_ContainsFunc_LimplTerm_impl_twoOfOne_1 (l.take i) l[i] = some (twiceB (l.take i) l[i]) := by
        have key := loop_scan (l.take i) (fun j o => if seq o.Name l[i].Name then some (j : Int) else none) (b := slices_IndexFunc_LimplTerm_impl_twoOfOne_1_l1b (l.take i) l[i]) (by
          intro j hj
          have hj' : j < i := by simp at hj; omega
          unfold slices_IndexFunc_LimplTerm_impl_twoOfOne_1_l1b impl_twoOfOne_1
          rw [if_pos (show decide ((j : Int) < ((l.take i).length : Int)) = true by rw [decide_eq_true_eq]; omega), idx_nat hj]
          simp only [Option.bind_some]
          rw [w64_nat (by omega)]
          cases seq (l.take i)[j].Name l[i].Name <;> rfl) (by
          unfold slices_IndexFunc_LimplTerm_impl_twoOfOne_1_l1b
          rw [if_neg (by simp)])
        unfold slices_ContainsFunc_LimplTerm_impl_twoOfOne_1 slices_IndexFunc_LimplTerm_impl_twoOfOne_1 slices_IndexFunc_LimplTerm_impl_twoOfOne_1_l1
        rw [key, frs_go]
        unfold twiceB
        rw [← place_ge (scan_place (fun o => seq o.Name l[i].Name) (l.take i) 0)]
        cases scanL (fun j o => if seq o.Name l[i].Name then some (j : Int) else none) 0 (l.take i) <;> rfl
      rw [ec]
      simp only [Option.bind_some]
      rw [w64_nat (by omega)]
      cases twiceB (l.take i) l[i] <;> rfl
    rw [loop_eq, hb, List.drop_eq_getElem_cons hi]
    have ea : anyTwice (l.take i) (l[i] :: l.drop (i + 1)) = (twiceB (l.take i) l[i] || anyTwice (l.take i ++ [l[i]]) (l.drop (i + 1))) := rfl
    rw [ea]
    simp only [Option.bind_some]
    rw [List.take_succ_eq_append_getElem hi] at ih
    by_cases ht : twiceB (l.take i) l[i] = true
    · rw [if_pos ht, ht]
      rfl
    · have ht' : twiceB (l.take i) l[i] = false := by simpa using ht
      rw [if_neg ht, ht', Bool.false_or]
      exact ih

theorem twoOfOne_impl (l : List Term) (h : l.length ≤ 100000) : impl_twoOfOne l = some (anyTwice [] l) := by
  have := twoOfOne_loop l h l.length 0 (by omega)
  unfold impl_twoOfOne impl_twoOfOne_l1
  rw [show ((0 : Nat) : Int) = 0 from rfl] at this
  rw [this]
  simp only [List.take_zero, List.drop_zero]
  cases anyTwice [] l <;> rfl

theorem tsF_all : ∀ {l : List Term}, (∀ t ∈ l, TF t = 0) → tsF l = 0 := by
  intro l h
  unfold tsF
  have : scanL (fun _ t => if TF t != 0 then some (TF t) else none) 0 l = none := by
    rw [scan_none]
    intro j hj
    rw [h _ (List.getElem_mem hj)]
    rfl
  rw [this]
  rfl

/-- The terms of the file of roots. -/
def rootsOfD (d : Disk) : Option (List Term) := match fileOf d (bs [114, 111, 111, 116, 115]) with
  | none => some []
  | some f => rootsP (b2s f.Data)

theorem rootsP_nil : rootsP (b2s []) = some [] := by
  have hl : linesS (b2s []) = [] := by
    unfold linesS
    have hp : partsS 10 (b2s []) = [b2s []] := by
      unfold partsS
      rw [show bl (b2s []) = [] from bl_b2s (by simp)]
      rfl
    rw [hp, if_pos (by rfl)]
    rfl
  unfold rootsP
  rw [hl]
  simp [readL, anyTwice, rootsS, growS]
  rfl

theorem roots_impl {d : Disk} (hg : d.good) (hb : Byt d) : impl_Disk_roots d = some (match rootsOfD d with | some l => (l, 0) | none => ([], 5)) := by
  unfold impl_Disk_roots
  have key : ∀ (x2 : List Int × Bool), (b2s x2.1).size ≤ 90000 → ((impl_linesOf (b2s x2.1)).bind fun x4 => (impl_Disk_roots_l1 x2 x4 (([] : List Term), 0)).bind (Fl.go some fun v23 => (impl_RootsText v23).bind fun x24 =>
      (if !(seq x24 (b2s x2.1)) then (some true) else (if decide ((v23.length : Int) > 8) then (some true) else ((impl_twoOfOne v23).bind fun x28 => some x28))).bind fun v30 => if v30 then (some (([] : List Term), 5)) else (some (v23, 0)))) =
      some (match rootsP (b2s x2.1) with | some l => (l, (0 : Int)) | none => ([], 5)) := by
    intro x2 hx
    generalize hs : b2s x2.1 = s
    rw [hs] at hx
    have hlen := linesS_len s
    have hsz : ∀ p ∈ linesS s, p.size ≤ 1048577 := fun p hp => by have := linesS_size s p hp; omega
    have k1 := roots_loop x2 (linesS s) hsz (by omega) (linesS s).length 0 [] (by omega) (by simp)
    rw [List.drop_zero, show ((0 : Nat) : Int) = 0 from rfl] at k1
    rw [linesOf_impl s (by omega)]
    simp only [Option.bind_some]
    unfold impl_Disk_roots_l1 rootsP
    rw [k1]
    cases hr : readL (linesS s) with
    | none => rfl
    | some l =>
      obtain ⟨h1, h2⟩ := readL_right hr
      simp only [List.nil_append, Option.bind_some, Fl.go]
      rw [RootsText_impl l (by omega), tsF_all h1]
      simp only [Option.bind_some, bne_self_eq_false, Bool.false_eq_true, if_false]
      by_cases he : rootsS l = s
      · rw [he, seq_self]
        simp only [Bool.not_true, Bool.false_eq_true, if_false]
        by_cases h8 : l.length ≤ 8
        · rw [if_neg (by simp; omega), twoOfOne_impl l (by omega)]
          simp only [Option.bind_some, h8, true_and, and_true]
          cases anyTwice [] l <;> rfl
        · rw [if_pos (by simp; omega), if_neg (fun e => h8 e.1)]
          rfl
      · have : seq (rootsS l) s = false := by rw [seq_eq]; simpa using he
        rw [this]
        simp only [Bool.not_false, if_true, Option.bind_some]
        rw [if_neg (fun e => he e.2.2)]
  have hsize : ∀ l : List Int, (∀ c ∈ l, 0 ≤ c ∧ c ≤ 255) → (b2s l).size = l.length := fun l h => by rw [← bl_length, bl_b2s h]
  unfold rootsOfD
  rcases file_both d (bs [114, 111, 111, 116, 115]) hg with ⟨k, hk, _, e2, e3⟩ | ⟨_, e2, e3⟩
  · rw [e2, e3]
    have hm := List.getElem_mem hk
    have hd := hg.data _ hm
    simp only [Option.bind_some]
    exact key (d.Files[k].Data, true) (by show (b2s d.Files[k].Data).size ≤ 90000; rw [hsize _ (hb _ hm)]; omega)
  · rw [e2, e3]
    simp only [Option.bind_some]
    have := key ([], false) (by show (b2s []).size ≤ 90000; rw [hsize _ (by simp)]; simp)
    rw [rootsP_nil] at this
    exact this

theorem Asks_spec {d : Disk} (hg : d.good) (hb : Byt d) : ∃ o, spec_l8Asks d = some (match rootsOfD d with | some l => (l, true) | none => (o, false)) := by
  unfold spec_l8Asks rootsOfD
  rcases file_both d (bs [114, 111, 111, 116, 115]) hg with ⟨k, hk, e1, _, e3⟩ | ⟨e1, _, e3⟩
  · rw [e1, e3]
    have hm := List.getElem_mem hk
    have hd := hg.data _ hm
    obtain ⟨o, e⟩ := l8Roots_spec (b2s d.Files[k].Data) (by rw [← bl_length, bl_b2s (hb _ hm)]; omega)
    simp only [Option.bind_some]
    rw [if_neg (by simp), idx_nat hk]
    simp only [Option.bind_some]
    rw [e]
    refine ⟨o, ?_⟩
    cases rootsP (b2s d.Files[k].Data) <;> rfl
  · rw [e1, e3]
    exact ⟨[], rfl⟩

theorem rootsOfD_sm {d : Disk} {l : List Term} (h : rootsOfD d = some l) : l.length ≤ 8 ∧ ∀ t ∈ l, Term.sm 1049600 t := by
  have key : ∀ s, rootsP s = some l → l.length ≤ 8 ∧ ∀ t ∈ l, Term.sm 1049600 t := by
    intro s hs
    unfold rootsP at hs
    split at hs
    · cases hs
    · rename_i l' hr
      split at hs
      · rename_i h8
        cases hs
        refine ⟨h8.1, fun t ht => ?_⟩
        have := NF_size (TF_zero ((readL_right hr).1 t ht)).1
        refine ⟨by omega, ⟨trivial, trivial, trivial⟩, ⟨trivial, trivial, trivial⟩⟩
      · cases hs
  unfold rootsOfD at h
  split at h
  · cases h; simp
  · exact key _ h

theorem RootsOf_both (a1 : Disk) (k0 : Disk.ok a1) (s0 : (Disk.sm 1048576 a1)) : ∃ r, spec_RootsOf a1 = some r ∧ impl_RootsOf a1 = some r ∧ (AsksResult.sm 1049600 r) := by
  have hb : Byt a1 := fun f hf c hc => by have := (k0.1.2 f hf).2.2 c hc; simpa [IntKind.min, IntKind.max, IntKind.signed, IntKind.bits] using this
  obtain ⟨k, ek, hk⟩ := DiskFault_spec a1 s0.1.1
  unfold spec_RootsOf impl_RootsOf
  rw [DiskFault_same, ek]
  simp only [Option.bind_some]
  by_cases h0 : k = 0
  · have hg := hk h0
    subst h0
    obtain ⟨o, e⟩ := Asks_spec hg hb
    rw [e, roots_impl hg hb]
    simp only [bne_self_eq_false, Bool.false_eq_true, if_false, Option.bind_some]
    cases hr : rootsOfD a1 with
    | none => exact ⟨_, rfl, rfl, by unfold AsksResult.sm; exact ⟨trivial, by simp, by simp⟩⟩
    | some l => exact ⟨_, rfl, rfl, by
        have h8 := rootsOfD_sm hr
        unfold AsksResult.sm
        exact ⟨trivial, by show l.length ≤ 1049600; omega, fun t ht => h8.2 t ht⟩⟩
  · have hn : (k != 0) = true := by simpa using h0
    simp only [hn, if_true]
    exact ⟨_, rfl, rfl, by unfold AsksResult.sm; exact ⟨trivial, by simp, by simp⟩⟩

theorem FnExactRootsOf_law (a1 : Disk) (k0 : Disk.ok a1) : laws_FnExactRootsOf a1 = some true := FnExactRootsOf_true a1 k0 (RootsOf_both a1 k0)
end Go.Told

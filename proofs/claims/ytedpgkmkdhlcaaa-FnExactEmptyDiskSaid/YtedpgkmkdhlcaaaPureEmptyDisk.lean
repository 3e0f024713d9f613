import Derived.Test.YtedpgkmkdhlcaaaToldEmptyDisk
set_option linter.unusedVariables false
set_option maxRecDepth 4000
namespace Go.Told
open Go Go.Im

/-! ### Loops and lists in general -/
theorem loop_congr {S T : Type} {b b' : S → Option (Lp S T)} (h : ∀ s, b s = b' s) : loop b = loop b' := by
  have : b = b' := funext h
  rw [this]

theorem w64_of {x : Int} (h1 : -9223372036854775808 ≤ x) (h2 : x ≤ 9223372036854775807) : w64 x = x := by
  unfold w64
  rw [IntKind.wrap_i64]
  omega

theorem w64_nat {i : Nat} (h : i < 9223372036854775807) : w64 ((i : Int) + 1) = ((i + 1 : Nat) : Int) := by
  rw [w64_of (by omega) (by omega)]; omega

/-- Going through a list from the front. -/
theorem loop_up {T : Type} {S : Type} {b : S → Option (Lp S T)} (I : Nat → S → Prop) (n : Nat) (Q : T → Prop) (hstep : ∀ i s, i < n → I i s → (∃ s', b s = some (.go s') ∧ I (i + 1) s') ∨ ∃ t, b s = some (.done t) ∧ Q t)
    (hend : ∀ s, I n s → ∃ t, b s = some (.done t) ∧ Q t) : ∀ (k i : Nat) (s : S), i + k = n → I i s → ∃ t, loop b s = some t ∧ Q t
  | 0, i, s, hk, hI => by
    obtain ⟨t, h1, h2⟩ := hend s (by rw [show n = i by omega]; exact hI)
    exact ⟨t, by rw [loop_eq, h1]; rfl, h2⟩
  | k + 1, i, s, hk, hI => by
    rcases hstep i s (by omega) hI with ⟨s', h1, h2⟩ | ⟨t, h1, h2⟩
    · obtain ⟨t, h3, h4⟩ := loop_up I n Q hstep hend k (i + 1) s' (by omega) h2
      exact ⟨t, by rw [loop_eq, h1]; exact h3, h4⟩
    · exact ⟨t, by rw [loop_eq, h1]; rfl, h2⟩

theorem idx_nat {α : Type} {xs : List α} {i : Nat} (h : i < xs.length) : idx xs (i : Int) = some xs[i] := by
  unfold idx
  rw [if_pos (by omega)]
  simp [h]

theorem idx_append {α : Type} (l r : List α) (x : α) : idx (l ++ x :: r) (l.length : Int) = some x := by
  rw [idx_nat (by simp)]
  simp

/-- What a walk over a list comes to. -/
def goL {α A T : Type} (g : Nat → A → α → Lp A T) (fin : A → T) : Nat → List α → A → T
  | _, [], a => fin a
  | i, x :: xs, a => match g i a x with
    | .go a' => goL g fin (i + 1) xs a'
    | .done t => t

theorem loop_goL {α A S T : Type} (xs : List α) (g : Nat → A → α → Lp A T) (fin : A → T) (e : Nat → A → S) (I : Nat → A → Prop) {b : S → Option (Lp S T)}
    (hstep : ∀ (i : Nat) (a : A) (hi : i < xs.length), I i a → b (e i a) = some (match g i a xs[i] with | .go a' => .go (e (i + 1) a') | .done t => .done t) ∧ ∀ a', g i a xs[i] = .go a' → I (i + 1) a')
    (hend : ∀ a, I xs.length a → b (e xs.length a) = some (.done (fin a))) : ∀ (k i : Nat) (a : A), i + k = xs.length → I i a → loop b (e i a) = some (goL g fin i (xs.drop i) a)
  | 0, i, a, hk, hI => by
    have : i = xs.length := by omega
    subst this
    rw [loop_eq, hend a hI, List.drop_length]; rfl
  | k + 1, i, a, hk, hI => by
    have hi : i < xs.length := by omega
    obtain ⟨h1, h2⟩ := hstep i a hi hI
    rw [loop_eq, h1, List.drop_eq_getElem_cons hi]
    simp only [goL]
    cases hg : g i a xs[i] with
    | go a' =>
      simp only [Option.bind_some, Lp.elim]
      exact loop_goL xs g fin e I hstep hend k (i + 1) a' (by omega) (h2 a' hg)
    | done t => rfl

theorem loop_list {α A S T : Type} (xs : List α) (g : Nat → A → α → Lp A T) (fin : A → T) (e : Nat → A → S) (I : Nat → A → Prop) {b : S → Option (Lp S T)} (a0 : A)
    (hstep : ∀ (i : Nat) (a : A) (hi : i < xs.length), I i a → b (e i a) = some (match g i a xs[i] with | .go a' => .go (e (i + 1) a') | .done t => .done t) ∧ ∀ a', g i a xs[i] = .go a' → I (i + 1) a')
    (hend : ∀ a, I xs.length a → b (e xs.length a) = some (.done (fin a))) (h0 : I 0 a0) : loop b (e 0 a0) = some (goL g fin 0 xs a0) := by
  have := loop_goL xs g fin e I hstep hend xs.length 0 a0 (by omega) h0
  simpa using this

/-- A list that is copied element by element. -/
theorem to_loop {α : Type} (xs : List α) {b : (List α × Int) → Option (Lp (List α × Int) (List α))} (hstep : ∀ (ys : List α) (i : Nat) (hi : i < xs.length), ys.length = xs.length → b (ys, (i : Int)) = some (.go (ys.set i xs[i], ((i + 1 : Nat) : Int))))
    (hend : ∀ ys : List α, ys.length = xs.length → b (ys, (xs.length : Int)) = some (.done ys)) (y0 : List α) (h0 : y0.length = xs.length) : loop b (y0, 0) = some xs := by
  obtain ⟨t, h1, h2⟩ := loop_up (b := b) (fun i s => s.2 = (i : Int) ∧ s.1.length = xs.length ∧ s.1.take i = xs.take i) xs.length (fun t => t = xs) (by
    rintro i ⟨ys, j⟩ hi ⟨hj, hl, hp⟩
    simp only at hj hl hp
    subst hj
    refine .inl ⟨_, hstep ys i hi hl, rfl, by simpa using hl, ?_⟩
    simp only
    rw [List.take_succ_eq_append_getElem (by simp; omega), List.take_succ_eq_append_getElem hi, ← hp, List.take_set_of_le (Nat.le_refl _)]
    simp) (by
    rintro ⟨ys, j⟩ ⟨hj, hl, hp⟩
    simp only at hj hl hp
    subst hj
    refine ⟨ys, hend ys hl, ?_⟩
    rw [List.take_of_length_le (by omega), List.take_of_length_le (by omega)] at hp
    exact hp) xs.length 0 (y0, 0) (by omega) ⟨rfl, h0, by simp⟩
  rw [h1, h2]

/-- Two lists held against each other that are one. -/
theorem eq_loop {R : Type} (n : Nat) {b : Int → Option (Lp Int (Fl R Unit))} (hstep : ∀ i : Nat, i < n → b (i : Int) = some (.go ((i + 1 : Nat) : Int))) (hend : b (n : Int) = some (.done (.nxt ()))) : loop b 0 = some (.nxt ()) := by
  obtain ⟨t, h1, h2⟩ := loop_up (b := b) (fun i s => s = (i : Int)) n (fun t => t = .nxt ()) (by
    rintro i s hi rfl
    exact .inl ⟨_, hstep i hi, rfl⟩) (by
    rintro s rfl
    exact ⟨_, hend, rfl⟩) n 0 0 (by omega) rfl
  rw [h1, h2]

/-- What is left of a size. -/
theorem sz_loop {α : Type} (xs : List α) (P : α → Prop) (l : Int) {b : (Int × Int) → Option (Lp (Int × Int) (Fl Int Int))}
    (hstep : ∀ (q : Int) (i : Nat) (hi : i < xs.length), 0 ≤ q → q ≤ l → (∃ q', b (q, (i : Int)) = some (.go (q', ((i + 1 : Nat) : Int))) ∧ 0 ≤ q' ∧ q' ≤ q ∧ P xs[i]) ∨ ∃ t, b (q, (i : Int)) = some (.done (.ret t)) ∧ t < 0)
    (hend : ∀ q : Int, b (q, (xs.length : Int)) = some (.done (.nxt q))) (h0 : 0 ≤ l) :
    ∃ t, loop b (l, 0) = some t ∧ match t with | .ret r => r < 0 | .nxt r => 0 ≤ r ∧ r ≤ l ∧ ∀ x ∈ xs, P x := by
  refine loop_up (b := b) (fun i s => s.2 = (i : Int) ∧ 0 ≤ s.1 ∧ s.1 ≤ l ∧ ∀ j, (hj : j < xs.length) → j < i → P xs[j]) xs.length _ (by
    rintro i ⟨q, j⟩ hi ⟨hj, h1, h2, h3⟩
    simp only at hj h1 h2 h3
    subst hj
    rcases hstep q i hi h1 h2 with ⟨q', e, g1, g2, g3⟩ | ⟨t, e, ht⟩
    · refine .inl ⟨_, e, rfl, g1, by simp only; omega, fun j hj hji => ?_⟩
      rcases Nat.lt_or_ge j i with h | h
      · exact h3 j hj h
      · have : j = i := by omega
        subst this; exact g3
    · exact .inr ⟨_, e, ht⟩) (by
    rintro ⟨q, j⟩ ⟨hj, h1, h2, h3⟩
    simp only at hj h1 h2 h3
    subst hj
    refine ⟨_, hend q, h1, h2, fun x hx => ?_⟩
    obtain ⟨j, hj, rfl⟩ := List.getElem_of_mem hx
    exact h3 j hj hj) xs.length 0 (l, 0) (by omega) ⟨rfl, h0, Int.le_refl _, fun j _ h => by omega⟩

/-! ### Marks -/
def pm {α : Type} (m : α → Int → α) (c : α → Int) : List α → Int → List α
  | [], _ => []
  | x :: xs, k => m x k :: pm m c xs (k + c x)

def cs {α : Type} (c : α → Int) : List α → Int
  | [] => 0
  | x :: xs => c x + cs c xs

theorem pm_length {α : Type} (m : α → Int → α) (c : α → Int) : ∀ (xs : List α) (k : Int), (pm m c xs k).length = xs.length
  | [], _ => rfl
  | x :: xs, k => by simp [pm, pm_length m c xs]

theorem cs_nonneg {α : Type} {c : α → Int} (hc : ∀ a, 0 ≤ c a) : ∀ (xs : List α), 0 ≤ cs c xs
  | [] => Int.le_refl _
  | x :: xs => by have := hc x; have := cs_nonneg hc xs; simp only [cs]; omega

theorem cs_le {α : Type} {c : α → Int} {C : Int} {N : Nat} (hC : 0 ≤ C) : ∀ (xs : List α), (∀ a ∈ xs, c a ≤ C) → xs.length ≤ N → cs c xs ≤ N * C
  | [], _, _ => Int.mul_nonneg (by omega) hC
  | x :: xs, h, hl => by
    have h1 := h x (by simp)
    simp only [List.length_cons] at hl
    have h2 := cs_le (N := N - 1) hC xs (fun a ha => h a (by simp [ha])) (by omega)
    simp only [cs]
    have : ((N - 1 : Nat) : Int) * C + C = N * C := by
      have e : ((N - 1 : Nat) : Int) = (N : Int) - 1 := by omega
      rw [e, Int.sub_mul, Int.one_mul]; omega
    omega

theorem mark_loop {α : Type} (m : α → Int → α) (c : α → Int) (P : α → Prop) (hc : ∀ a, 0 ≤ c a) {b : (List α × Int × Int) → Option (Lp (List α × Int × Int) (List α × Int))}
    (hstep : ∀ (l r : List α) (x : α) (k : Int), P x → 0 ≤ k → k + c x ≤ 9223372036854775807 → l.length < 9223372036854775807 → b (l ++ x :: r, k, (l.length : Int)) = some (.go (l ++ m x k :: r, k + c x, ((l.length + 1 : Nat) : Int))))
    (hend : ∀ (l : List α) (k : Int), b (l, k, (l.length : Int)) = some (.done (l, k))) : ∀ (xs l : List α) (k : Int), (∀ x ∈ xs, P x) → 0 ≤ k → k + cs c xs ≤ 9223372036854775807 → l.length + xs.length < 9223372036854775807 →
    loop b (l ++ xs, k, (l.length : Int)) = some (l ++ pm m c xs k, k + cs c xs)
  | [], l, k, _, _, _, _ => by
    rw [loop_eq, List.append_nil, hend]
    simp [pm, cs, Lp.elim]
  | x :: xs, l, k, hP, h0, h1, h2 => by
    have hx := hc x
    have hxs := cs_nonneg hc xs
    simp only [cs] at h1
    simp only [List.length_cons] at h2
    rw [loop_eq, hstep l xs x k (hP x (by simp)) h0 (by omega) (by omega)]
    simp only [Option.bind_some, Lp.elim]
    have := mark_loop m c P hc hstep hend xs (l ++ [m x k]) (k + c x) (fun y hy => hP y (by simp [hy])) (by omega) (by omega) (by simp; omega)
    simp only [List.length_append, List.length_cons, List.length_nil, List.append_assoc, List.cons_append, List.nil_append] at this
    rw [this]
    simp only [pm, cs]
    congr 2
    omega

theorem held_loop {α : Type} (m : α → Int → α) (c : α → Int) (P : α → Prop) (hc : ∀ a, 0 ≤ c a) {b : List α → (Int × Int) → Option (Lp (Int × Int) (Fl Int Int))}
    (hstep : ∀ (l r : List α) (x : α) (k : Int), P x → 0 ≤ k → k + c x ≤ 9223372036854775807 → l.length < 9223372036854775807 → b (l ++ m x k :: r) (k, (l.length : Int)) = some (.go (k + c x, ((l.length + 1 : Nat) : Int))))
    (hend : ∀ (l : List α) (k : Int), b l (k, (l.length : Int)) = some (.done (.nxt k))) : ∀ (xs l : List α) (k : Int), (∀ x ∈ xs, P x) → 0 ≤ k → k + cs c xs ≤ 9223372036854775807 → l.length + xs.length < 9223372036854775807 →
    loop (b (l ++ pm m c xs k)) (k, (l.length : Int)) = some (.nxt (k + cs c xs))
  | [], l, k, _, _, _, _ => by
    rw [loop_eq, pm, List.append_nil, hend]
    simp [cs, Lp.elim]
  | x :: xs, l, k, hP, h0, h1, h2 => by
    have hx := hc x
    have hxs := cs_nonneg hc xs
    simp only [cs] at h1
    simp only [List.length_cons] at h2
    rw [pm, loop_eq, hstep l _ x k (hP x (by simp)) h0 (by omega) (by omega)]
    simp only [Option.bind_some, Lp.elim]
    have := held_loop m c P hc hstep hend xs (l ++ [m x k]) (k + c x) (fun y hy => hP y (by simp [hy])) (by omega) (by omega) (by simp; omega)
    simp only [List.length_append, List.length_cons, List.length_nil, List.append_assoc, List.cons_append, List.nil_append] at this
    rw [this]
    simp only [cs]
    congr 2
    omega

theorem same_of {α β : Type} {xs : List α} {ys : List β} (h : xs.length = ys.length) : same xs ys = some () := if_pos h

theorem set_app {α : Type} (l r : List α) (x y : α) : (l ++ x :: r).set l.length y = l ++ y :: r := by
  rw [List.set_append_right _ _ (Nat.le_refl _)]
  simp

theorem seq_self (a : ByteArray) : seq a a = true := by
  unfold seq
  simp

/-- One mark. -/
def c1 {α : Type} (_ : α) : Int := 1
theorem c1_nonneg {α : Type} (a : α) : 0 ≤ c1 a := by unfold c1; decide

theorem eqByteS_self (x : (List Int)) (hx : x.length ≤ 1049600 ∧ ∀ y0 ∈ x, True) : laws_eqByteS x x = some true := by
  have hl := hx.1
  unfold laws_eqByteS
  rw [if_neg (by simp)]
  unfold laws_eqByteS_l1
  rw [eq_loop x.length ?_ ?_]
  · rfl
  · intro i hi
    unfold laws_eqByteS_l1b
    rw [if_pos (by simp; omega)]
    have hi2 : w64 ((i : Int) + 1) = ((i + 1 : Nat) : Int) := w64_nat (by omega)
    simp [idx_nat hi, hi2]
  · unfold laws_eqByteS_l1b
    rw [if_neg (by simp)]

def File.sm (B : Nat) (x : File) : Prop := (x.Path.size ≤ B) ∧ (x.Data.length ≤ B ∧ ∀ y0 ∈ x.Data, True)

def Disk.sm (B : Nat) (x : Disk) : Prop := (x.Files.length ≤ B ∧ ∀ y0 ∈ x.Files, File.sm B y0) ∧ (True) ∧ (True) ∧ (True) ∧ (True)

theorem eqFile_self (x : File) (hx : File.sm 1049600 x) : laws_eqFile x x = some true := by
  obtain ⟨h0, h1⟩ := hx
  unfold laws_eqFile
  simp [eqByteS_self x.Data h1]

theorem eqFileS_self (x : (List File)) (hx : x.length ≤ 1049600 ∧ ∀ y0 ∈ x, File.sm 1049600 y0) : laws_eqFileS x x = some true := by
  have hl := hx.1
  unfold laws_eqFileS
  rw [if_neg (by simp)]
  unfold laws_eqFileS_l1
  rw [eq_loop x.length ?_ ?_]
  · rfl
  · intro i hi
    unfold laws_eqFileS_l1b
    rw [if_pos (by simp; omega)]
    have hi2 : w64 ((i : Int) + 1) = ((i + 1 : Nat) : Int) := w64_nat (by omega)
    simp [idx_nat hi, hi2, eqFile_self x[i] (hx.2 _ (List.getElem_mem hi))]
  · unfold laws_eqFileS_l1b
    rw [if_neg (by simp)]

theorem eqDisk_self (x : Disk) (hx : Disk.sm 1049600 x) : laws_eqDisk x x = some true := by
  obtain ⟨h0, h1, h2, h3, h4⟩ := hx
  unfold laws_eqDisk
  simp [eqFileS_self x.Files h0]

def DiskResult.sm (B : Nat) (x : DiskResult) : Prop := (True) ∧ (Disk.sm B x.Disk)

theorem eqDiskResult_self (x : DiskResult) (hx : DiskResult.sm 1049600 x) : laws_eqDiskResult x x = some true := by
  obtain ⟨h0, h1⟩ := hx
  unfold laws_eqDiskResult
  simp [eqDisk_self x.Disk h1]

theorem b2s_size1 (a : Int) : (b2s [a]).size = 1 := rfl

theorem markText_some {k : Int} (h0 : 0 ≤ k) (h1 : k ≤ 9223372036854775807) : ∃ s, laws_markText k = some s := by
  have key : ∀ (n : Nat) (k : Int) (s : ByteArray), 0 ≤ k → k < 10 ^ n → k ≤ 9223372036854775807 → s.size + n ≤ 1000 → ∃ t, loop laws_markText_l1b (k, s) = some t ∧ t.size ≤ s.size + n := by
    intro n
    induction n with
    | zero =>
      intro k s h0 h1 _ _
      have : k = 0 := by simp at h1; omega
      subst this
      exact ⟨s, by rw [loop_eq]; rfl, by omega⟩
    | succ n ih =>
      intro k s h0 h1 h2 h3
      by_cases hk : k > 0
      · rw [loop_eq]
        unfold laws_markText_l1b
        simp only
        rw [if_pos (by simpa using hk)]
        have hc : ∀ a : Int, cat (b2s [a]) s = some (b2s [a] ++ s) := fun a => by
          unfold cat; rw [if_pos (by rw [b2s_size1]; omega)]
        rw [hc]
        simp only [Option.bind_some, Lp.elim]
        have hd : k.tdiv 10 = k / 10 := Int.tdiv_eq_ediv_of_nonneg h0
        rw [hd, w64_of (by omega) (by omega)]
        obtain ⟨t, g1, g2⟩ := ih (k / 10) (b2s [IntKind.u8.wrap (w64 (48 + k.tmod 10))] ++ s) (by omega) (by rw [Int.pow_succ] at h1; omega) (by omega) (by rw [ByteArray.size_append, b2s_size1]; omega)
        refine ⟨t, g1, ?_⟩
        rw [ByteArray.size_append, b2s_size1] at g2
        omega
      · have : k = 0 := by omega
        subst this
        exact ⟨s, by rw [loop_eq]; rfl, by omega⟩
  unfold laws_markText
  by_cases hk : k ≤ 0
  · rw [if_pos (by simpa using hk)]
    exact ⟨_, rfl⟩
  · rw [if_neg (by simpa using hk)]
    obtain ⟨t, g1, g2⟩ := key 19 k (bs []) h0 (by omega) h1 (by decide)
    unfold laws_markText_l1
    rw [g1]
    simp only [Option.bind_some]
    have e0 : (bs []).size = 0 := rfl
    have e1 : (bs [109]).size = 1 := rfl
    unfold cat
    rw [if_pos (by omega)]
    exact ⟨_, rfl⟩

noncomputable def mT (k : Int) : ByteArray := (laws_markText k).getD ByteArray.empty

theorem markText_eq {k : Int} (h0 : 0 ≤ k) (h1 : k ≤ 9223372036854775807) : laws_markText k = some (mT k) := by
  obtain ⟨s, hs⟩ := markText_some h0 h1
  unfold mT
  rw [hs]
  rfl

def mByte (_ : Int) (k : Int) : Int := IntKind.u8.wrap k

theorem markByteSr_eq (xs : List Int) (hx : xs.length ≤ 1049600 ∧ ∀ y0 ∈ xs, True) (k : Int) (h0 : 0 ≤ k) (h1 : k + cs c1 xs ≤ 9223372036854775807) : laws_markByteSr xs k = some (k + cs c1 xs, pm mByte c1 xs k) := by
  unfold laws_markByteSr laws_markByteSr_l1
  have key := mark_loop mByte c1 (fun y0 => True) c1_nonneg (b := laws_markByteSr_l1b) ?_ ?_ xs [] k hx.2 h0 h1 (by have := hx.1; simp; omega)
  · simp only [List.nil_append, List.length_nil, Int.natCast_zero] at key
    rw [key]
    rfl
  · intro l r x k hP h0 hk hl
    simp only [c1] at hk
    have w0 := w64_of (x := k + 1) (by omega) (by omega)
    have hi2 : w64 ((l.length : Int) + 1) = ((l.length + 1 : Nat) : Int) := w64_nat (by omega)
    unfold laws_markByteSr_l1b
    rw [if_pos (by simp; omega)]
    simp only [idx_append, set_app, Option.bind_some, Int.toNat_natCast, hi2, w0]
    rfl
  · intro l k
    unfold laws_markByteSr_l1b
    rw [if_neg (by simp)]

theorem heldByteS_eq (xs : List Int) (hx : xs.length ≤ 1049600 ∧ ∀ y0 ∈ xs, True) (k : Int) (h0 : 0 ≤ k) (h1 : k + cs c1 xs ≤ 9223372036854775807) : laws_heldByteS (pm mByte c1 xs k) k = some (k + cs c1 xs) := by
  unfold laws_heldByteS laws_heldByteS_l1
  have key := held_loop mByte c1 (fun y0 => True) c1_nonneg (b := laws_heldByteS_l1b) ?_ ?_ xs [] k hx.2 h0 h1 (by have := hx.1; simp; omega)
  · simp only [List.nil_append, List.length_nil, Int.natCast_zero] at key
    rw [key]
    rfl
  · intro l r x k hP h0 hk hl
    simp only [c1] at hk
    have w0 := w64_of (x := k + 1) (by omega) (by omega)
    have hi2 : w64 ((l.length : Int) + 1) = ((l.length + 1 : Nat) : Int) := w64_nat (by omega)
    unfold laws_heldByteS_l1b
    rw [if_pos (by simp; omega)]
    simp [idx_append, hi2, mByte, w0]
    all_goals (first | rfl | omega | (simp only [c1]; omega))
  · intro l k
    unfold laws_heldByteS_l1b
    rw [if_neg (by simp)]

noncomputable def mFile (x : File) (k : Int) : File := ({ Path := mT (k), Data := pm mByte c1 x.Data (k + 1) } : File)

noncomputable def cFile (x : File) : Int := 1 + cs c1 x.Data

theorem cFile_nonneg (x : File) : 0 ≤ cFile x := by
  have n1 := cs_nonneg c1_nonneg x.Data
  unfold cFile
  omega

theorem markFileSr_eq (xs : List File) (hx : xs.length ≤ 1049600 ∧ ∀ y0 ∈ xs, File.sm 1049600 y0) (k : Int) (h0 : 0 ≤ k) (h1 : k + cs cFile xs ≤ 9223372036854775807) : laws_markFileSr xs k = some (k + cs cFile xs, pm mFile cFile xs k) := by
  unfold laws_markFileSr laws_markFileSr_l1
  have key := mark_loop mFile cFile (fun y0 => File.sm 1049600 y0) cFile_nonneg (b := laws_markFileSr_l1b) ?_ ?_ xs [] k hx.2 h0 h1 (by have := hx.1; simp; omega)
  · simp only [List.nil_append, List.length_nil, Int.natCast_zero] at key
    rw [key]
    rfl
  · intro l r x k hP h0 hk hl
    simp only [cFile] at hk
    have n1 := cs_nonneg c1_nonneg x.Data
    have t0 := markText_eq (k := k) (by omega) (by omega)
    have w0 := w64_of (x := k + 1) (by omega) (by omega)
    have t1 := markByteSr_eq x.Data (hP.2) (k + 1) (by omega) (by omega)
    have hi2 : w64 ((l.length : Int) + 1) = ((l.length + 1 : Nat) : Int) := w64_nat (by omega)
    unfold laws_markFileSr_l1b
    rw [if_pos (by simp; omega)]
    simp only [idx_append, set_app, Option.bind_some, Int.toNat_natCast, hi2, t0, w0, t1, same_of (pm_length _ _ _ _)]
    rw [show k + 1 + cs c1 x.Data = k + cFile x from by simp only [cFile]; omega]
    rfl
  · intro l k
    unfold laws_markFileSr_l1b
    rw [if_neg (by simp)]

theorem heldFileS_eq (xs : List File) (hx : xs.length ≤ 1049600 ∧ ∀ y0 ∈ xs, File.sm 1049600 y0) (k : Int) (h0 : 0 ≤ k) (h1 : k + cs cFile xs ≤ 9223372036854775807) : laws_heldFileS (pm mFile cFile xs k) k = some (k + cs cFile xs) := by
  unfold laws_heldFileS laws_heldFileS_l1
  have key := held_loop mFile cFile (fun y0 => File.sm 1049600 y0) cFile_nonneg (b := laws_heldFileS_l1b) ?_ ?_ xs [] k hx.2 h0 h1 (by have := hx.1; simp; omega)
  · simp only [List.nil_append, List.length_nil, Int.natCast_zero] at key
    rw [key]
    rfl
  · intro l r x k hP h0 hk hl
    simp only [cFile] at hk
    have n1 := cs_nonneg c1_nonneg x.Data
    have t0 := markText_eq (k := k) (by omega) (by omega)
    have w0 := w64_of (x := k + 1) (by omega) (by omega)
    have t1 := heldByteS_eq x.Data (hP.2) (k + 1) (by omega) (by omega)
    have z1 : ¬ (k + 1 + cs c1 x.Data < 0) := by omega
    have hi2 : w64 ((l.length : Int) + 1) = ((l.length + 1 : Nat) : Int) := w64_nat (by omega)
    unfold laws_heldFileS_l1b
    rw [if_pos (by simp; omega)]
    simp [idx_append, hi2, mFile, t0, w0, t1, z1]
    all_goals (first | rfl | omega | (simp only [cFile]; omega))
  · intro l k
    unfold laws_heldFileS_l1b
    rw [if_neg (by simp)]

theorem markDiskg_eq (x : Disk) (hP : Disk.sm 1049600 x) (k : Int) (h0 : 0 ≤ k) (h1 : k + cs cFile x.Files ≤ 9223372036854775807) : laws_markDiskg x k = some (k + cs cFile x.Files, pm mFile cFile x.Files (k)) := by
  have n0 := cs_nonneg cFile_nonneg x.Files
  have t0 := markFileSr_eq x.Files (hP.1) (k) (by omega) (by omega)
  unfold laws_markDiskg
  simp only [t0, Option.bind_some, same_of (pm_length _ _ _ _)]

theorem heldDisk_eq (x : Disk) (hP : Disk.sm 1049600 x) (k : Int) (h0 : 0 ≤ k) (h1 : k + cs cFile x.Files ≤ 9223372036854775807) : laws_heldDisk ({ Files := pm mFile cFile x.Files (k), Budget := x.Budget, Writes := x.Writes, Stop := x.Stop, Down := x.Down } : Disk) k = some (k + cs cFile x.Files) := by
  have n0 := cs_nonneg cFile_nonneg x.Files
  have t0 := heldFileS_eq x.Files (hP.1) (k) (by omega) (by omega)
  unfold laws_heldDisk
  simp [t0]
  all_goals omega

theorem markDiskResultg_eq (x : DiskResult) (hP : DiskResult.sm 1049600 x) (k : Int) (h0 : 0 ≤ k) (h1 : k + cs cFile x.Disk.Files ≤ 9223372036854775807) : laws_markDiskResultg x k = some (k + cs cFile x.Disk.Files, pm mFile cFile x.Disk.Files (k)) := by
  have n0 := cs_nonneg cFile_nonneg x.Disk.Files
  have t0 := markDiskg_eq x.Disk (hP.2) (k) (by omega) (by omega)
  unfold laws_markDiskResultg
  simp only [t0, Option.bind_some, same_of (pm_length _ _ _ _)]

theorem heldDiskResult_eq (x : DiskResult) (hP : DiskResult.sm 1049600 x) (k : Int) (h0 : 0 ≤ k) (h1 : k + cs cFile x.Disk.Files ≤ 9223372036854775807) : laws_heldDiskResult ({ Code := x.Code, Disk := ({ Files := pm mFile cFile x.Disk.Files (k), Budget := x.Disk.Budget, Writes := x.Disk.Writes, Stop := x.Disk.Stop, Down := x.Disk.Down } : Disk) } : DiskResult) k = some (k + cs cFile x.Disk.Files) := by
  have n0 := cs_nonneg cFile_nonneg x.Disk.Files
  have t0 := heldDisk_eq x.Disk (hP.2) (k) (by omega) (by omega)
  unfold laws_heldDiskResult
  simp [t0]
  all_goals omega

theorem csByteS_le (x : (List Int)) (hx : x.length ≤ 1049600 ∧ ∀ y0 ∈ x, True) : cs c1 x ≤ 1049600 := by
  have := cs_le (c := c1) (C := 1) (N := 1049600) (by decide) x (fun a _ => by unfold c1; decide) hx.1
  omega

theorem csFileS_le (x : (List File)) (hx : x.length ≤ 1049600 ∧ ∀ y0 ∈ x, File.sm 1049600 y0) : cs cFile x ≤ 1101661209600 := by
  have := cs_le (c := cFile) (C := 1049601) (N := 1049600) (by decide) x (fun a ha => by have hP := hx.2 a ha; have q1 := csByteS_le a.Data (hP.2); unfold cFile; omega) hx.1
  omega

theorem FnExactEmptyDisk_true (a1 : Int) (k0 : IntKind.i64.min ≤ a1 ∧ a1 ≤ IntKind.i64.max) (both : (True) → ∃ r, spec_EmptyDisk a1 = some r ∧ impl_EmptyDisk a1 = some r ∧ (DiskResult.sm 1049600 r)) : laws_FnExactEmptyDisk a1 = some true := by
  unfold laws_FnExactEmptyDisk
  have s_a1 : True := trivial
  obtain ⟨r, e1, e2, hr⟩ := both s_a1
  have m_a1 : True := trivial
  have n1 := cs_nonneg cFile_nonneg r.Disk.Files
  have b1 := csFileS_le r.Disk.Files (hr.2.1)
  have t2 := markDiskResultg_eq r hr 1 (by omega) (by omega)
  have u2 := heldDiskResult_eq r hr 1 (by omega) (by omega)
  have z2 : ¬ (1 + cs cFile r.Disk.Files < 0) := by omega
  simp [e1, e2, eqDiskResult_self r hr, t2, u2, z2, same_of (pm_length _ _ _ _)]

theorem EmptyDisk_both (a1 : Int) (_ : IntKind.i64.min ≤ a1 ∧ a1 ≤ IntKind.i64.max) (_ : True) : ∃ r, spec_EmptyDisk a1 = some r ∧ impl_EmptyDisk a1 = some r ∧ DiskResult.sm 1049600 r := by
  unfold spec_EmptyDisk impl_EmptyDisk spec_l1In impl_within
  by_cases c1 : 0 ≤ a1 <;> by_cases c2 : a1 ≤ 20000
  all_goals simp [c1, c2, DiskResult.sm, Disk.sm]
theorem FnExactEmptyDisk_law (a1 : Int) (k0 : IntKind.i64.min ≤ a1 ∧ a1 ≤ IntKind.i64.max) : laws_FnExactEmptyDisk a1 = some true := FnExactEmptyDisk_true a1 k0 (EmptyDisk_both a1 k0)
end Go.Told

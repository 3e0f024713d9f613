import Derived.Test.YtbifnchjphefeaaGreatDoorToldWholeSet
set_option linter.unusedVariables false
set_option maxRecDepth 4000
namespace Go.Told
open Go Go.Im

/-! ### Loops and lists in general -/
theorem loop_congr {S T : Type} {b b' : S → Option (Lp S T)} (h : ∀ s, b s = b' s) : loop b = loop b' := by
  have : b = b' := funext h
  rw [this]

theorem w64_of {x : Int} (h1 : -9223372036854775808 ≤ x) (h2 : x ≤ 9223372036854775807) : w64 x = x := by
  unfold w64
  rw [IntKind.wrap_i64]
  omega

theorem w64_nat {i : Nat} (h : i < 9223372036854775807) : w64 ((i : Int) + 1) = ((i + 1 : Nat) : Int) := by
  rw [w64_of (by omega) (by omega)]; omega

/-- Going through a list from the front. -/
theorem loop_up {T : Type} {S : Type} {b : S → Option (Lp S T)} (I : Nat → S → Prop) (n : Nat) (Q : T → Prop) (hstep : ∀ i s, i < n → I i s → (∃ s', b s = some (.go s') ∧ I (i + 1) s') ∨ ∃ t, b s = some (.done t) ∧ Q t)
    (hend : ∀ s, I n s → ∃ t, b s = some (.done t) ∧ Q t) : ∀ (k i : Nat) (s : S), i + k = n → I i s → ∃ t, loop b s = some t ∧ Q t
  | 0, i, s, hk, hI => by
    obtain ⟨t, h1, h2⟩ := hend s (by rw [show n = i by omega]; exact hI)
    exact ⟨t, by rw [loop_eq, h1]; rfl, h2⟩
  | k + 1, i, s, hk, hI => by
    rcases hstep i s (by omega) hI with ⟨s', h1, h2⟩ | ⟨t, h1, h2⟩
    · obtain ⟨t, h3, h4⟩ := loop_up I n Q hstep hend k (i + 1) s' (by omega) h2
      exact ⟨t, by rw [loop_eq, h1]; exact h3, h4⟩
    · exact ⟨t, by rw [loop_eq, h1]; rfl, h2⟩

theorem idx_nat {α : Type} {xs : List α} {i : Nat} (h : i < xs.length) : idx xs (i : Int) = some xs[i] := by
  unfold idx
  rw [if_pos (by omega)]
  simp [h]

/-- A list that is copied element by element. -/
theorem to_loop {α : Type} (xs : List α) {b : (List α × Int) → Option (Lp (List α × Int) (List α))} (hstep : ∀ (ys : List α) (i : Nat) (hi : i < xs.length), ys.length = xs.length → b (ys, (i : Int)) = some (.go (ys.set i xs[i], ((i + 1 : Nat) : Int))))
    (hend : ∀ ys : List α, ys.length = xs.length → b (ys, (xs.length : Int)) = some (.done ys)) (y0 : List α) (h0 : y0.length = xs.length) : loop b (y0, 0) = some xs := by
  obtain ⟨t, h1, h2⟩ := loop_up (b := b) (fun i s => s.2 = (i : Int) ∧ s.1.length = xs.length ∧ s.1.take i = xs.take i) xs.length (fun t => t = xs) (by
    rintro i ⟨ys, j⟩ hi ⟨hj, hl, hp⟩
    simp only at hj hl hp
    subst hj
    refine .inl ⟨_, hstep ys i hi hl, rfl, by simpa using hl, ?_⟩
    simp only
    rw [List.take_succ_eq_append_getElem (by simp; omega), List.take_succ_eq_append_getElem hi, ← hp, List.take_set_of_le (Nat.le_refl _)]
    simp) (by
    rintro ⟨ys, j⟩ ⟨hj, hl, hp⟩
    simp only at hj hl hp
    subst hj
    refine ⟨ys, hend ys hl, ?_⟩
    rw [List.take_of_length_le (by omega), List.take_of_length_le (by omega)] at hp
    exact hp) xs.length 0 (y0, 0) (by omega) ⟨rfl, h0, by simp⟩
  rw [h1, h2]

/-- Two lists held against each other that are one. -/
theorem eq_loop {R : Type} (n : Nat) {b : Int → Option (Lp Int (Fl R Unit))} (hstep : ∀ i : Nat, i < n → b (i : Int) = some (.go ((i + 1 : Nat) : Int))) (hend : b (n : Int) = some (.done (.nxt ()))) : loop b 0 = some (.nxt ()) := by
  obtain ⟨t, h1, h2⟩ := loop_up (b := b) (fun i s => s = (i : Int)) n (fun t => t = .nxt ()) (by
    rintro i s hi rfl
    exact .inl ⟨_, hstep i hi, rfl⟩) (by
    rintro s rfl
    exact ⟨_, hend, rfl⟩) n 0 0 (by omega) rfl
  rw [h1, h2]

/-- What is left of a size. -/
theorem sz_loop {α : Type} (xs : List α) (P : α → Prop) (l : Int) {b : (Int × Int) → Option (Lp (Int × Int) (Fl Int Int))}
    (hstep : ∀ (q : Int) (i : Nat) (hi : i < xs.length), 0 ≤ q → q ≤ l → (∃ q', b (q, (i : Int)) = some (.go (q', ((i + 1 : Nat) : Int))) ∧ 0 ≤ q' ∧ q' ≤ q ∧ P xs[i]) ∨ ∃ t, b (q, (i : Int)) = some (.done (.ret t)) ∧ t < 0)
    (hend : ∀ q : Int, b (q, (xs.length : Int)) = some (.done (.nxt q))) (h0 : 0 ≤ l) :
    ∃ t, loop b (l, 0) = some t ∧ match t with | .ret r => r < 0 | .nxt r => 0 ≤ r ∧ r ≤ l ∧ ∀ x ∈ xs, P x := by
  refine loop_up (b := b) (fun i s => s.2 = (i : Int) ∧ 0 ≤ s.1 ∧ s.1 ≤ l ∧ ∀ j, (hj : j < xs.length) → j < i → P xs[j]) xs.length _ (by
    rintro i ⟨q, j⟩ hi ⟨hj, h1, h2, h3⟩
    simp only at hj h1 h2 h3
    subst hj
    rcases hstep q i hi h1 h2 with ⟨q', e, g1, g2, g3⟩ | ⟨t, e, ht⟩
    · refine .inl ⟨_, e, rfl, g1, by simp only; omega, fun j hj hji => ?_⟩
      rcases Nat.lt_or_ge j i with h | h
      · exact h3 j hj h
      · have : j = i := by omega
        subst this; exact g3
    · exact .inr ⟨_, e, ht⟩) (by
    rintro ⟨q, j⟩ ⟨hj, h1, h2, h3⟩
    simp only at hj h1 h2 h3
    subst hj
    refine ⟨_, hend q, h1, h2, fun x hx => ?_⟩
    obtain ⟨j, hj, rfl⟩ := List.getElem_of_mem hx
    exact h3 j hj hj) xs.length 0 (l, 0) (by omega) ⟨rfl, h0, Int.le_refl _, fun j _ h => by omega⟩

/-- One mark. -/
def c1 {α : Type} (_ : α) : Int := 1

theorem app_of {α : Type} {B : Nat} {xs ys : List α} (h : (xs.length + ys.length) * B ≤ 140737488355328) (h2 : xs.length + ys.length ≤ 4611686018427387904) : app B xs ys = some (xs ++ ys) := if_pos ⟨h, h2⟩

theorem loop_meas {S T : Type} {b : S → Option (Lp S T)} (I : S → Prop) (μ : S → Nat) (Q : T → Prop) (step : ∀ s, I s → (∃ s', b s = some (.go s') ∧ I s' ∧ μ s' < μ s) ∨ ∃ t, b s = some (.done t) ∧ Q t) : ∀ (n : Nat) (s : S), μ s ≤ n → I s → ∃ t, loop b s = some t ∧ Q t
  | 0, s, hn, hI => by
    rcases step s hI with ⟨s', _, _, h3⟩ | ⟨t, h1, h2⟩
    · omega
    · exact ⟨t, by rw [loop_eq, h1]; rfl, h2⟩
  | n + 1, s, hn, hI => by
    rcases step s hI with ⟨s', h1, h2, h3⟩ | ⟨t, h1, h2⟩
    · obtain ⟨t, h4, h5⟩ := loop_meas I μ Q step n s' (by omega) h2
      exact ⟨t, by rw [loop_eq, h1]; exact h4, h5⟩
    · exact ⟨t, by rw [loop_eq, h1]; rfl, h2⟩

def Version.ok (x : Version) : Prop := (IntKind.i64.min ≤ x.A ∧ x.A ≤ IntKind.i64.max) ∧ (IntKind.i64.min ≤ x.B ∧ x.B ≤ IntKind.i64.max) ∧ (IntKind.i64.min ≤ x.C ∧ x.C ≤ IntKind.i64.max)

def Term.ok (x : Term) : Prop := (x.Name.size ≤ maxLen) ∧ (Version.ok x.Low) ∧ (Version.ok x.High)

def Pack.ok (x : Pack) : Prop := (x.Name.size ≤ maxLen) ∧ (Version.ok x.Version) ∧ (IntKind.i64.min ≤ x.Size ∧ x.Size ≤ IntKind.i64.max) ∧ (x.Provides.length ≤ maxLen ∧ ∀ y1 ∈ x.Provides, y1.size ≤ maxLen) ∧ (x.Needs.length ≤ maxLen ∧ ∀ y1 ∈ x.Needs, y1.length ≤ maxLen ∧ ∀ y2 ∈ y1, Term.ok y2) ∧ (x.Bars.length ≤ maxLen ∧ ∀ y1 ∈ x.Bars, Term.ok y1)

def File.ok (x : File) : Prop := (x.Path.size ≤ maxLen) ∧ (x.Data.length ≤ maxLen ∧ ∀ y1 ∈ x.Data, IntKind.u8.min ≤ y1 ∧ y1 ≤ IntKind.u8.max)

def Disk.ok (x : Disk) : Prop := (x.Files.length ≤ maxLen ∧ ∀ y1 ∈ x.Files, File.ok y1) ∧ (IntKind.i64.min ≤ x.Budget ∧ x.Budget ≤ IntKind.i64.max) ∧ (IntKind.i64.min ≤ x.Writes ∧ x.Writes ≤ IntKind.i64.max) ∧ (IntKind.i64.min ≤ x.Stop ∧ x.Stop ≤ IntKind.i64.max) ∧ (True)

theorem szByteS_ok (x : (List Int)) (hx : x.length ≤ maxLen ∧ ∀ y1 ∈ x, IntKind.u8.min ≤ y1 ∧ y1 ≤ IntKind.u8.max) (l : Int) (h0 : 0 ≤ l) (h1 : l ≤ 1048576) : ∃ r, laws_szByteS x l = some r ∧ (r < 0 ∨ (0 ≤ r ∧ r ≤ l ∧ (x.length ≤ 1048576 ∧ ∀ y0 ∈ x, True))) := by
  obtain ⟨hm, hx⟩ := hx
  unfold maxLen at hm
  unfold laws_szByteS
  rw [w64_of (x := l - x.length) (by omega) (by omega)]
  by_cases c1 : l - (x.length : Int) < 0
  · rw [if_pos (by simpa using c1)]
    exact ⟨_, rfl, .inl (by omega)⟩
  · rw [if_neg (by simpa using c1)]
    exact ⟨_, rfl, .inr ⟨by omega, by omega, by omega, fun _ _ => trivial⟩⟩

def File.sm (B : Nat) (x : File) : Prop := (x.Path.size ≤ B) ∧ (x.Data.length ≤ B ∧ ∀ y0 ∈ x.Data, True)

def Disk.sm (B : Nat) (x : Disk) : Prop := (x.Files.length ≤ B ∧ ∀ y0 ∈ x.Files, File.sm B y0) ∧ (True) ∧ (True) ∧ (True) ∧ (True)

theorem szFile_ok (x : File) (hx : File.ok x) (l : Int) (h0 : 0 ≤ l) (h1 : l ≤ 1048576) : ∃ r, laws_szFile x l = some r ∧ (r < 0 ∨ (0 ≤ r ∧ r ≤ l ∧ (File.sm 1048576 x))) := by
  obtain ⟨k0, k1⟩ := hx
  unfold maxLen at *
  unfold laws_szFile
  rw [w64_of (x := l - x.Path.size) (by omega) (by omega)]
  by_cases c0 : l - (x.Path.size : Int) < 0
  · rw [if_pos (by simpa using c0)]
    exact ⟨_, rfl, .inl (by omega)⟩
  rw [if_neg (by simpa using c0)]
  obtain ⟨r1, e1, g1⟩ := szByteS_ok x.Data k1 (l - x.Path.size) (by omega) (by omega)
  rw [e1]
  simp only [Option.bind_some]
  by_cases c1 : r1 < 0
  · rw [if_pos (by simpa using c1)]
    exact ⟨_, rfl, .inl (by omega)⟩
  rw [if_neg (by simpa using c1)]
  obtain ⟨p1, q1, z1⟩ := g1.resolve_left c1
  exact ⟨_, rfl, .inr ⟨by omega, by omega, by omega, z1⟩⟩

theorem szFileS_ok (x : (List File)) (hx : x.length ≤ maxLen ∧ ∀ y1 ∈ x, File.ok y1) (l : Int) (h0 : 0 ≤ l) (h1 : l ≤ 1048576) : ∃ r, laws_szFileS x l = some r ∧ (r < 0 ∨ (0 ≤ r ∧ r ≤ l ∧ (x.length ≤ 1048576 ∧ ∀ y0 ∈ x, File.sm 1048576 y0))) := by
  obtain ⟨hm, hx⟩ := hx
  unfold maxLen at hm
  unfold laws_szFileS
  rw [w64_of (x := l - x.length) (by omega) (by omega)]
  by_cases c1 : l - (x.length : Int) < 0
  · rw [if_pos (by simpa using c1)]
    exact ⟨_, rfl, .inl (by omega)⟩
  · rw [if_neg (by simpa using c1)]
    have key := sz_loop x (fun y0 => File.sm 1048576 y0) (l - x.length) (b := laws_szFileS_l1b x) ?_ ?_ (by omega)
    · obtain ⟨t, h2, h3⟩ := key
      unfold laws_szFileS_l1
      rw [h2]
      cases t with
      | ret r => exact ⟨r, rfl, .inl h3⟩
      | nxt r => exact ⟨r, rfl, .inr ⟨h3.1, by have := h3.2.1; omega, by omega, h3.2.2⟩⟩
    · intro q i hi hq0 hq1
      unfold laws_szFileS_l1b
      rw [if_pos (by simp; omega)]
      simp only [idx_nat hi, Option.bind_some]
      have hi2 : w64 ((i : Int) + 1) = ((i + 1 : Nat) : Int) := w64_nat (by omega)
      obtain ⟨r, e, hr⟩ := szFile_ok x[i] (hx _ (List.getElem_mem hi)) q hq0 (by omega)
      rw [e]
      simp only [Option.bind_some]
      by_cases c : r < 0
      · rw [if_pos (by simpa using c)]
        exact .inr ⟨_, rfl, by omega⟩
      · rw [if_neg (by simpa using c), hi2]
        obtain ⟨g1, g2, g3⟩ := hr.resolve_left c
        exact .inl ⟨_, rfl, g1, g2, g3⟩
    · intro q
      unfold laws_szFileS_l1b
      rw [if_neg (by simp)]

theorem szDisk_ok (x : Disk) (hx : Disk.ok x) (l : Int) (h0 : 0 ≤ l) (h1 : l ≤ 1048576) : ∃ r, laws_szDisk x l = some r ∧ (r < 0 ∨ (0 ≤ r ∧ r ≤ l ∧ (Disk.sm 1048576 x))) := by
  obtain ⟨k0, k1, k2, k3, k4⟩ := hx
  unfold maxLen at *
  unfold laws_szDisk
  obtain ⟨r0, e0, g0⟩ := szFileS_ok x.Files k0 l (by omega) (by omega)
  rw [e0]
  simp only [Option.bind_some]
  by_cases c0 : r0 < 0
  · rw [if_pos (by simpa using c0)]
    exact ⟨_, rfl, .inl (by omega)⟩
  rw [if_neg (by simpa using c0)]
  obtain ⟨p0, q0, z0⟩ := g0.resolve_left c0
  exact ⟨_, rfl, .inr ⟨by omega, by omega, z0, trivial, trivial, trivial, trivial⟩⟩

def Version.sm (B : Nat) (x : Version) : Prop := (True) ∧ (True) ∧ (True)

def Term.sm (B : Nat) (x : Term) : Prop := (x.Name.size ≤ B) ∧ (Version.sm B x.Low) ∧ (Version.sm B x.High)

def Pack.sm (B : Nat) (x : Pack) : Prop := (x.Name.size ≤ B) ∧ (Version.sm B x.Version) ∧ (True) ∧ (x.Provides.length ≤ B ∧ ∀ y0 ∈ x.Provides, y0.size ≤ B) ∧ (x.Needs.length ≤ B ∧ ∀ y0 ∈ x.Needs, y0.length ≤ B ∧ ∀ y1 ∈ y0, Term.sm B y1) ∧ (x.Bars.length ≤ B ∧ ∀ y0 ∈ x.Bars, Term.sm B y0)

theorem szStringS_ok (x : (List ByteArray)) (hx : x.length ≤ maxLen ∧ ∀ y1 ∈ x, y1.size ≤ maxLen) (l : Int) (h0 : 0 ≤ l) (h1 : l ≤ 1048576) : ∃ r, laws_szStringS x l = some r ∧ (r < 0 ∨ (0 ≤ r ∧ r ≤ l ∧ (x.length ≤ 1048576 ∧ ∀ y0 ∈ x, y0.size ≤ 1048576))) := by
  obtain ⟨hm, hx⟩ := hx
  unfold maxLen at hm
  unfold laws_szStringS
  rw [w64_of (x := l - x.length) (by omega) (by omega)]
  by_cases c1 : l - (x.length : Int) < 0
  · rw [if_pos (by simpa using c1)]
    exact ⟨_, rfl, .inl (by omega)⟩
  · rw [if_neg (by simpa using c1)]
    have key := sz_loop x (fun y0 => y0.size ≤ 1048576) (l - x.length) (b := laws_szStringS_l1b x) ?_ ?_ (by omega)
    · obtain ⟨t, h2, h3⟩ := key
      unfold laws_szStringS_l1
      rw [h2]
      cases t with
      | ret r => exact ⟨r, rfl, .inl h3⟩
      | nxt r => exact ⟨r, rfl, .inr ⟨h3.1, by have := h3.2.1; omega, by omega, h3.2.2⟩⟩
    · intro q i hi hq0 hq1
      unfold laws_szStringS_l1b
      rw [if_pos (by simp; omega)]
      simp only [idx_nat hi, Option.bind_some]
      have hi2 : w64 ((i : Int) + 1) = ((i + 1 : Nat) : Int) := w64_nat (by omega)
      have hs := hx _ (List.getElem_mem hi)
      unfold maxLen at hs
      rw [w64_of (x := q - (x[i]).size) (by omega) (by omega)]
      by_cases c : q - ((x[i]).size : Int) < 0
      · rw [if_pos (by simpa using c)]
        exact .inr ⟨_, rfl, by omega⟩
      · rw [if_neg (by simpa using c), hi2]
        exact .inl ⟨_, rfl, by omega, by omega, by show (x[i]).size ≤ 1048576; omega⟩
    · intro q
      unfold laws_szStringS_l1b
      rw [if_neg (by simp)]

theorem szTerm_ok (x : Term) (hx : Term.ok x) (l : Int) (h0 : 0 ≤ l) (h1 : l ≤ 1048576) : ∃ r, laws_szTerm x l = some r ∧ (r < 0 ∨ (0 ≤ r ∧ r ≤ l ∧ (Term.sm 1048576 x))) := by
  obtain ⟨k0, k1, k2⟩ := hx
  unfold maxLen at *
  unfold laws_szTerm
  rw [w64_of (x := l - x.Name.size) (by omega) (by omega)]
  by_cases c0 : l - (x.Name.size : Int) < 0
  · rw [if_pos (by simpa using c0)]
    exact ⟨_, rfl, .inl (by omega)⟩
  rw [if_neg (by simpa using c0)]
  exact ⟨_, rfl, .inr ⟨by omega, by omega, by omega, ⟨trivial, trivial, trivial⟩, ⟨trivial, trivial, trivial⟩⟩⟩

theorem szTermS_ok (x : (List Term)) (hx : x.length ≤ maxLen ∧ ∀ y1 ∈ x, Term.ok y1) (l : Int) (h0 : 0 ≤ l) (h1 : l ≤ 1048576) : ∃ r, laws_szTermS x l = some r ∧ (r < 0 ∨ (0 ≤ r ∧ r ≤ l ∧ (x.length ≤ 1048576 ∧ ∀ y0 ∈ x, Term.sm 1048576 y0))) := by
  obtain ⟨hm, hx⟩ := hx
  unfold maxLen at hm
  unfold laws_szTermS
  rw [w64_of (x := l - x.length) (by omega) (by omega)]
  by_cases c1 : l - (x.length : Int) < 0
  · rw [if_pos (by simpa using c1)]
    exact ⟨_, rfl, .inl (by omega)⟩
  · rw [if_neg (by simpa using c1)]
    have key := sz_loop x (fun y0 => Term.sm 1048576 y0) (l - x.length) (b := laws_szTermS_l1b x) ?_ ?_ (by omega)
    · obtain ⟨t, h2, h3⟩ := key
      unfold laws_szTermS_l1
      rw [h2]
      cases t with
      | ret r => exact ⟨r, rfl, .inl h3⟩
      | nxt r => exact ⟨r, rfl, .inr ⟨h3.1, by have := h3.2.1; omega, by omega, h3.2.2⟩⟩
    · intro q i hi hq0 hq1
      unfold laws_szTermS_l1b
      rw [if_pos (by simp; omega)]
      simp only [idx_nat hi, Option.bind_some]
      have hi2 : w64 ((i : Int) + 1) = ((i + 1 : Nat) : Int) := w64_nat (by omega)
      obtain ⟨r, e, hr⟩ := szTerm_ok x[i] (hx _ (List.getElem_mem hi)) q hq0 (by omega)
      rw [e]
      simp only [Option.bind_some]
      by_cases c : r < 0
      · rw [if_pos (by simpa using c)]
        exact .inr ⟨_, rfl, by omega⟩
      · rw [if_neg (by simpa using c), hi2]
        obtain ⟨g1, g2, g3⟩ := hr.resolve_left c
        exact .inl ⟨_, rfl, g1, g2, g3⟩
    · intro q
      unfold laws_szTermS_l1b
      rw [if_neg (by simp)]

theorem szTermSS_ok (x : (List (List Term))) (hx : x.length ≤ maxLen ∧ ∀ y1 ∈ x, y1.length ≤ maxLen ∧ ∀ y2 ∈ y1, Term.ok y2) (l : Int) (h0 : 0 ≤ l) (h1 : l ≤ 1048576) : ∃ r, laws_szTermSS x l = some r ∧ (r < 0 ∨ (0 ≤ r ∧ r ≤ l ∧ (x.length ≤ 1048576 ∧ ∀ y0 ∈ x, y0.length ≤ 1048576 ∧ ∀ y1 ∈ y0, Term.sm 1048576 y1))) := by
  obtain ⟨hm, hx⟩ := hx
  unfold maxLen at hm
  unfold laws_szTermSS
  rw [w64_of (x := l - x.length) (by omega) (by omega)]
  by_cases c1 : l - (x.length : Int) < 0
  · rw [if_pos (by simpa using c1)]
    exact ⟨_, rfl, .inl (by omega)⟩
  · rw [if_neg (by simpa using c1)]
    have key := sz_loop x (fun y0 => y0.length ≤ 1048576 ∧ ∀ y1 ∈ y0, Term.sm 1048576 y1) (l - x.length) (b := laws_szTermSS_l1b x) ?_ ?_ (by omega)
    · obtain ⟨t, h2, h3⟩ := key
      unfold laws_szTermSS_l1
      rw [h2]
      cases t with
      | ret r => exact ⟨r, rfl, .inl h3⟩
      | nxt r => exact ⟨r, rfl, .inr ⟨h3.1, by have := h3.2.1; omega, by omega, h3.2.2⟩⟩
    · intro q i hi hq0 hq1
      unfold laws_szTermSS_l1b
      rw [if_pos (by simp; omega)]
      simp only [idx_nat hi, Option.bind_some]
      have hi2 : w64 ((i : Int) + 1) = ((i + 1 : Nat) : Int) := w64_nat (by omega)
      obtain ⟨r, e, hr⟩ := szTermS_ok x[i] (hx _ (List.getElem_mem hi)) q hq0 (by omega)
      rw [e]
      simp only [Option.bind_some]
      by_cases c : r < 0
      · rw [if_pos (by simpa using c)]
        exact .inr ⟨_, rfl, by omega⟩
      · rw [if_neg (by simpa using c), hi2]
        obtain ⟨g1, g2, g3⟩ := hr.resolve_left c
        exact .inl ⟨_, rfl, g1, g2, g3⟩
    · intro q
      unfold laws_szTermSS_l1b
      rw [if_neg (by simp)]

theorem szPack_ok (x : Pack) (hx : Pack.ok x) (l : Int) (h0 : 0 ≤ l) (h1 : l ≤ 1048576) : ∃ r, laws_szPack x l = some r ∧ (r < 0 ∨ (0 ≤ r ∧ r ≤ l ∧ (Pack.sm 1048576 x))) := by
  obtain ⟨k0, k1, k2, k3, k4, k5⟩ := hx
  unfold maxLen at *
  unfold laws_szPack
  rw [w64_of (x := l - x.Name.size) (by omega) (by omega)]
  by_cases c0 : l - (x.Name.size : Int) < 0
  · rw [if_pos (by simpa using c0)]
    exact ⟨_, rfl, .inl (by omega)⟩
  rw [if_neg (by simpa using c0)]
  obtain ⟨r3, e3, g3⟩ := szStringS_ok x.Provides k3 (l - x.Name.size) (by omega) (by omega)
  rw [e3]
  simp only [Option.bind_some]
  by_cases c3 : r3 < 0
  · rw [if_pos (by simpa using c3)]
    exact ⟨_, rfl, .inl (by omega)⟩
  rw [if_neg (by simpa using c3)]
  obtain ⟨p3, q3, z3⟩ := g3.resolve_left c3
  obtain ⟨r4, e4, g4⟩ := szTermSS_ok x.Needs k4 r3 (by omega) (by omega)
  rw [e4]
  simp only [Option.bind_some]
  by_cases c4 : r4 < 0
  · rw [if_pos (by simpa using c4)]
    exact ⟨_, rfl, .inl (by omega)⟩
  rw [if_neg (by simpa using c4)]
  obtain ⟨p4, q4, z4⟩ := g4.resolve_left c4
  obtain ⟨r5, e5, g5⟩ := szTermS_ok x.Bars k5 r4 (by omega) (by omega)
  rw [e5]
  simp only [Option.bind_some]
  by_cases c5 : r5 < 0
  · rw [if_pos (by simpa using c5)]
    exact ⟨_, rfl, .inl (by omega)⟩
  rw [if_neg (by simpa using c5)]
  obtain ⟨p5, q5, z5⟩ := g5.resolve_left c5
  exact ⟨_, rfl, .inr ⟨by omega, by omega, by omega, ⟨trivial, trivial, trivial⟩, trivial, z3, z4, z5⟩⟩

theorem szPackS_ok (x : (List Pack)) (hx : x.length ≤ maxLen ∧ ∀ y1 ∈ x, Pack.ok y1) (l : Int) (h0 : 0 ≤ l) (h1 : l ≤ 1048576) : ∃ r, laws_szPackS x l = some r ∧ (r < 0 ∨ (0 ≤ r ∧ r ≤ l ∧ (x.length ≤ 1048576 ∧ ∀ y0 ∈ x, Pack.sm 1048576 y0))) := by
  obtain ⟨hm, hx⟩ := hx
  unfold maxLen at hm
  unfold laws_szPackS
  rw [w64_of (x := l - x.length) (by omega) (by omega)]
  by_cases c1 : l - (x.length : Int) < 0
  · rw [if_pos (by simpa using c1)]
    exact ⟨_, rfl, .inl (by omega)⟩
  · rw [if_neg (by simpa using c1)]
    have key := sz_loop x (fun y0 => Pack.sm 1048576 y0) (l - x.length) (b := laws_szPackS_l1b x) ?_ ?_ (by omega)
    · obtain ⟨t, h2, h3⟩ := key
      unfold laws_szPackS_l1
      rw [h2]
      cases t with
      | ret r => exact ⟨r, rfl, .inl h3⟩
      | nxt r => exact ⟨r, rfl, .inr ⟨h3.1, by have := h3.2.1; omega, by omega, h3.2.2⟩⟩
    · intro q i hi hq0 hq1
      unfold laws_szPackS_l1b
      rw [if_pos (by simp; omega)]
      simp only [idx_nat hi, Option.bind_some]
      have hi2 : w64 ((i : Int) + 1) = ((i + 1 : Nat) : Int) := w64_nat (by omega)
      obtain ⟨r, e, hr⟩ := szPack_ok x[i] (hx _ (List.getElem_mem hi)) q hq0 (by omega)
      rw [e]
      simp only [Option.bind_some]
      by_cases c : r < 0
      · rw [if_pos (by simpa using c)]
        exact .inr ⟨_, rfl, by omega⟩
      · rw [if_neg (by simpa using c), hi2]
        obtain ⟨g1, g2, g3⟩ := hr.resolve_left c
        exact .inl ⟨_, rfl, g1, g2, g3⟩
    · intro q
      unfold laws_szPackS_l1b
      rw [if_neg (by simp)]

theorem toByteS_eq (x : (List Int)) (hx : x.length ≤ 1049600 ∧ ∀ y0 ∈ x, True) : laws_toByteS x = some x := by
  have hl := hx.1
  unfold laws_toByteS
  have hm : ∀ z : Int, mk 1 (x.length : Int) z = some (List.replicate x.length z) := fun z => by
    unfold mk; rw [if_pos ⟨by omega, by simp; omega, by omega⟩]; simp
  rw [hm]
  simp only [Option.bind_some, laws_toByteS_l1]
  rw [to_loop x ?_ ?_ _ (by simp)]
  · rfl
  · intro ys i hi hl2
    unfold laws_toByteS_l1b
    rw [if_pos (by simp; omega)]
    have hi2 : w64 ((i : Int) + 1) = ((i + 1 : Nat) : Int) := w64_nat (by omega)
    simp only [idx_nat hi, idx_nat (show i < ys.length by omega), Option.bind_some, Int.toNat_natCast, hi2]
  · intro ys _
    unfold laws_toByteS_l1b
    rw [if_neg (by simp)]

theorem toFile_eq (x : File) (hx : File.sm 1049600 x) : laws_toFile x = some x := by
  obtain ⟨h0, h1⟩ := hx
  unfold laws_toFile
  simp only [toByteS_eq x.Data h1, Option.bind_some]

theorem toFileS_eq (x : (List File)) (hx : x.length ≤ 1049600 ∧ ∀ y0 ∈ x, File.sm 1049600 y0) : laws_toFileS x = some x := by
  have hl := hx.1
  unfold laws_toFileS
  have hm : ∀ z : File, mk 40 (x.length : Int) z = some (List.replicate x.length z) := fun z => by
    unfold mk; rw [if_pos ⟨by omega, by simp; omega, by omega⟩]; simp
  rw [hm]
  simp only [Option.bind_some, laws_toFileS_l1]
  rw [to_loop x ?_ ?_ _ (by simp)]
  · rfl
  · intro ys i hi hl2
    unfold laws_toFileS_l1b
    rw [if_pos (by simp; omega)]
    have hi2 : w64 ((i : Int) + 1) = ((i + 1 : Nat) : Int) := w64_nat (by omega)
    simp only [idx_nat hi, idx_nat (show i < ys.length by omega), Option.bind_some, Int.toNat_natCast, hi2, toFile_eq x[i] (hx.2 _ (List.getElem_mem hi))]
  · intro ys _
    unfold laws_toFileS_l1b
    rw [if_neg (by simp)]

theorem toDisk_eq (x : Disk) (hx : Disk.sm 1049600 x) : laws_toDisk x = some x := by
  obtain ⟨h0, h1, h2, h3, h4⟩ := hx
  unfold laws_toDisk
  simp only [toFileS_eq x.Files h0, Option.bind_some]

theorem toInt64S_eq (x : (List Int)) (hx : x.length ≤ 1049600 ∧ ∀ y0 ∈ x, True) : laws_toInt64S x = some x := by
  have hl := hx.1
  unfold laws_toInt64S
  have hm : ∀ z : Int, mk 8 (x.length : Int) z = some (List.replicate x.length z) := fun z => by
    unfold mk; rw [if_pos ⟨by omega, by simp; omega, by omega⟩]; simp
  rw [hm]
  simp only [Option.bind_some, laws_toInt64S_l1]
  rw [to_loop x ?_ ?_ _ (by simp)]
  · rfl
  · intro ys i hi hl2
    unfold laws_toInt64S_l1b
    rw [if_pos (by simp; omega)]
    have hi2 : w64 ((i : Int) + 1) = ((i + 1 : Nat) : Int) := w64_nat (by omega)
    simp only [idx_nat hi, idx_nat (show i < ys.length by omega), Option.bind_some, Int.toNat_natCast, hi2]
  · intro ys _
    unfold laws_toInt64S_l1b
    rw [if_neg (by simp)]

theorem toVersion_eq (x : Version) (hx : Version.sm 1049600 x) : laws_toVersion x = some x := by
  obtain ⟨h0, h1, h2⟩ := hx
  unfold laws_toVersion
  rfl

theorem toStringS_eq (x : (List ByteArray)) (hx : x.length ≤ 1049600 ∧ ∀ y0 ∈ x, y0.size ≤ 1049600) : laws_toStringS x = some x := by
  have hl := hx.1
  unfold laws_toStringS
  have hm : ∀ z : ByteArray, mk 16 (x.length : Int) z = some (List.replicate x.length z) := fun z => by
    unfold mk; rw [if_pos ⟨by omega, by simp; omega, by omega⟩]; simp
  rw [hm]
  simp only [Option.bind_some, laws_toStringS_l1]
  rw [to_loop x ?_ ?_ _ (by simp)]
  · rfl
  · intro ys i hi hl2
    unfold laws_toStringS_l1b
    rw [if_pos (by simp; omega)]
    have hi2 : w64 ((i : Int) + 1) = ((i + 1 : Nat) : Int) := w64_nat (by omega)
    simp only [idx_nat hi, idx_nat (show i < ys.length by omega), Option.bind_some, Int.toNat_natCast, hi2]
  · intro ys _
    unfold laws_toStringS_l1b
    rw [if_neg (by simp)]

theorem toTerm_eq (x : Term) (hx : Term.sm 1049600 x) : laws_toTerm x = some x := by
  obtain ⟨h0, h1, h2⟩ := hx
  unfold laws_toTerm
  simp only [toVersion_eq x.Low h1, toVersion_eq x.High h2, Option.bind_some]

theorem toTermS_eq (x : (List Term)) (hx : x.length ≤ 1049600 ∧ ∀ y0 ∈ x, Term.sm 1049600 y0) : laws_toTermS x = some x := by
  have hl := hx.1
  unfold laws_toTermS
  have hm : ∀ z : Term, mk 64 (x.length : Int) z = some (List.replicate x.length z) := fun z => by
    unfold mk; rw [if_pos ⟨by omega, by simp; omega, by omega⟩]; simp
  rw [hm]
  simp only [Option.bind_some, laws_toTermS_l1]
  rw [to_loop x ?_ ?_ _ (by simp)]
  · rfl
  · intro ys i hi hl2
    unfold laws_toTermS_l1b
    rw [if_pos (by simp; omega)]
    have hi2 : w64 ((i : Int) + 1) = ((i + 1 : Nat) : Int) := w64_nat (by omega)
    simp only [idx_nat hi, idx_nat (show i < ys.length by omega), Option.bind_some, Int.toNat_natCast, hi2, toTerm_eq x[i] (hx.2 _ (List.getElem_mem hi))]
  · intro ys _
    unfold laws_toTermS_l1b
    rw [if_neg (by simp)]

theorem toTermSS_eq (x : (List (List Term))) (hx : x.length ≤ 1049600 ∧ ∀ y0 ∈ x, y0.length ≤ 1049600 ∧ ∀ y1 ∈ y0, Term.sm 1049600 y1) : laws_toTermSS x = some x := by
  have hl := hx.1
  unfold laws_toTermSS
  have hm : ∀ z : (List Term), mk 24 (x.length : Int) z = some (List.replicate x.length z) := fun z => by
    unfold mk; rw [if_pos ⟨by omega, by simp; omega, by omega⟩]; simp
  rw [hm]
  simp only [Option.bind_some, laws_toTermSS_l1]
  rw [to_loop x ?_ ?_ _ (by simp)]
  · rfl
  · intro ys i hi hl2
    unfold laws_toTermSS_l1b
    rw [if_pos (by simp; omega)]
    have hi2 : w64 ((i : Int) + 1) = ((i + 1 : Nat) : Int) := w64_nat (by omega)
    simp only [idx_nat hi, idx_nat (show i < ys.length by omega), Option.bind_some, Int.toNat_natCast, hi2, toTermS_eq x[i] (hx.2 _ (List.getElem_mem hi))]
  · intro ys _
    unfold laws_toTermSS_l1b
    rw [if_neg (by simp)]

theorem toPack_eq (x : Pack) (hx : Pack.sm 1049600 x) : laws_toPack x = some x := by
  obtain ⟨h0, h1, h2, h3, h4, h5⟩ := hx
  unfold laws_toPack
  simp only [toVersion_eq x.Version h1, toStringS_eq x.Provides h3, toTermSS_eq x.Needs h4, toTermS_eq x.Bars h5, Option.bind_some]

theorem toPackS_eq (x : (List Pack)) (hx : x.length ≤ 1049600 ∧ ∀ y0 ∈ x, Pack.sm 1049600 y0) : laws_toPackS x = some x := by
  have hl := hx.1
  unfold laws_toPackS
  have hm : ∀ z : Pack, mk 120 (x.length : Int) z = some (List.replicate x.length z) := fun z => by
    unfold mk; rw [if_pos ⟨by omega, by simp; omega, by omega⟩]; simp
  rw [hm]
  simp only [Option.bind_some, laws_toPackS_l1]
  rw [to_loop x ?_ ?_ _ (by simp)]
  · rfl
  · intro ys i hi hl2
    unfold laws_toPackS_l1b
    rw [if_pos (by simp; omega)]
    have hi2 : w64 ((i : Int) + 1) = ((i + 1 : Nat) : Int) := w64_nat (by omega)
    simp only [idx_nat hi, idx_nat (show i < ys.length by omega), Option.bind_some, Int.toNat_natCast, hi2, toPack_eq x[i] (hx.2 _ (List.getElem_mem hi))]
  · intro ys _
    unfold laws_toPackS_l1b
    rw [if_neg (by simp)]

theorem eqByteS_self (x : (List Int)) (hx : x.length ≤ 1049600 ∧ ∀ y0 ∈ x, True) : laws_eqByteS x x = some true := by
  have hl := hx.1
  unfold laws_eqByteS
  rw [if_neg (by simp)]
  unfold laws_eqByteS_l1
  rw [eq_loop x.length ?_ ?_]
  · rfl
  · intro i hi
    unfold laws_eqByteS_l1b
    rw [if_pos (by simp; omega)]
    have hi2 : w64 ((i : Int) + 1) = ((i + 1 : Nat) : Int) := w64_nat (by omega)
    simp [idx_nat hi, hi2]
  · unfold laws_eqByteS_l1b
    rw [if_neg (by simp)]

theorem eqFile_self (x : File) (hx : File.sm 1049600 x) : laws_eqFile x x = some true := by
  obtain ⟨h0, h1⟩ := hx
  unfold laws_eqFile
  simp [eqByteS_self x.Data h1]

theorem eqFileS_self (x : (List File)) (hx : x.length ≤ 1049600 ∧ ∀ y0 ∈ x, File.sm 1049600 y0) : laws_eqFileS x x = some true := by
  have hl := hx.1
  unfold laws_eqFileS
  rw [if_neg (by simp)]
  unfold laws_eqFileS_l1
  rw [eq_loop x.length ?_ ?_]
  · rfl
  · intro i hi
    unfold laws_eqFileS_l1b
    rw [if_pos (by simp; omega)]
    have hi2 : w64 ((i : Int) + 1) = ((i + 1 : Nat) : Int) := w64_nat (by omega)
    simp [idx_nat hi, hi2, eqFile_self x[i] (hx.2 _ (List.getElem_mem hi))]
  · unfold laws_eqFileS_l1b
    rw [if_neg (by simp)]

theorem eqDisk_self (x : Disk) (hx : Disk.sm 1049600 x) : laws_eqDisk x x = some true := by
  obtain ⟨h0, h1, h2, h3, h4⟩ := hx
  unfold laws_eqDisk
  simp [eqFileS_self x.Files h0]

theorem eqInt64S_self (x : (List Int)) (hx : x.length ≤ 1049600 ∧ ∀ y0 ∈ x, True) : laws_eqInt64S x x = some true := by
  have hl := hx.1
  unfold laws_eqInt64S
  rw [if_neg (by simp)]
  unfold laws_eqInt64S_l1
  rw [eq_loop x.length ?_ ?_]
  · rfl
  · intro i hi
    unfold laws_eqInt64S_l1b
    rw [if_pos (by simp; omega)]
    have hi2 : w64 ((i : Int) + 1) = ((i + 1 : Nat) : Int) := w64_nat (by omega)
    simp [idx_nat hi, hi2]
  · unfold laws_eqInt64S_l1b
    rw [if_neg (by simp)]

theorem eqVersion_self (x : Version) (hx : Version.sm 1049600 x) : laws_eqVersion x x = some true := by
  obtain ⟨h0, h1, h2⟩ := hx
  unfold laws_eqVersion
  simp

theorem eqStringS_self (x : (List ByteArray)) (hx : x.length ≤ 1049600 ∧ ∀ y0 ∈ x, y0.size ≤ 1049600) : laws_eqStringS x x = some true := by
  have hl := hx.1
  unfold laws_eqStringS
  rw [if_neg (by simp)]
  unfold laws_eqStringS_l1
  rw [eq_loop x.length ?_ ?_]
  · rfl
  · intro i hi
    unfold laws_eqStringS_l1b
    rw [if_pos (by simp; omega)]
    have hi2 : w64 ((i : Int) + 1) = ((i + 1 : Nat) : Int) := w64_nat (by omega)
    simp [idx_nat hi, hi2]
  · unfold laws_eqStringS_l1b
    rw [if_neg (by simp)]

theorem eqTerm_self (x : Term) (hx : Term.sm 1049600 x) : laws_eqTerm x x = some true := by
  obtain ⟨h0, h1, h2⟩ := hx
  unfold laws_eqTerm
  simp [eqVersion_self x.Low h1, eqVersion_self x.High h2]

theorem eqTermS_self (x : (List Term)) (hx : x.length ≤ 1049600 ∧ ∀ y0 ∈ x, Term.sm 1049600 y0) : laws_eqTermS x x = some true := by
  have hl := hx.1
  unfold laws_eqTermS
  rw [if_neg (by simp)]
  unfold laws_eqTermS_l1
  rw [eq_loop x.length ?_ ?_]
  · rfl
  · intro i hi
    unfold laws_eqTermS_l1b
    rw [if_pos (by simp; omega)]
    have hi2 : w64 ((i : Int) + 1) = ((i + 1 : Nat) : Int) := w64_nat (by omega)
    simp [idx_nat hi, hi2, eqTerm_self x[i] (hx.2 _ (List.getElem_mem hi))]
  · unfold laws_eqTermS_l1b
    rw [if_neg (by simp)]

theorem eqTermSS_self (x : (List (List Term))) (hx : x.length ≤ 1049600 ∧ ∀ y0 ∈ x, y0.length ≤ 1049600 ∧ ∀ y1 ∈ y0, Term.sm 1049600 y1) : laws_eqTermSS x x = some true := by
  have hl := hx.1
  unfold laws_eqTermSS
  rw [if_neg (by simp)]
  unfold laws_eqTermSS_l1
  rw [eq_loop x.length ?_ ?_]
  · rfl
  · intro i hi
    unfold laws_eqTermSS_l1b
    rw [if_pos (by simp; omega)]
    have hi2 : w64 ((i : Int) + 1) = ((i + 1 : Nat) : Int) := w64_nat (by omega)
    simp [idx_nat hi, hi2, eqTermS_self x[i] (hx.2 _ (List.getElem_mem hi))]
  · unfold laws_eqTermSS_l1b
    rw [if_neg (by simp)]

theorem eqPack_self (x : Pack) (hx : Pack.sm 1049600 x) : laws_eqPack x x = some true := by
  obtain ⟨h0, h1, h2, h3, h4, h5⟩ := hx
  unfold laws_eqPack
  simp [eqVersion_self x.Version h1, eqStringS_self x.Provides h3, eqTermSS_self x.Needs h4, eqTermS_self x.Bars h5]

theorem eqPackS_self (x : (List Pack)) (hx : x.length ≤ 1049600 ∧ ∀ y0 ∈ x, Pack.sm 1049600 y0) : laws_eqPackS x x = some true := by
  have hl := hx.1
  unfold laws_eqPackS
  rw [if_neg (by simp)]
  unfold laws_eqPackS_l1
  rw [eq_loop x.length ?_ ?_]
  · rfl
  · intro i hi
    unfold laws_eqPackS_l1b
    rw [if_pos (by simp; omega)]
    have hi2 : w64 ((i : Int) + 1) = ((i + 1 : Nat) : Int) := w64_nat (by omega)
    simp [idx_nat hi, hi2, eqPack_self x[i] (hx.2 _ (List.getElem_mem hi))]
  · unfold laws_eqPackS_l1b
    rw [if_neg (by simp)]

theorem Version.sm_mono {x : Version} (h : Version.sm 1048576 x) : Version.sm 1049600 x := ⟨trivial, trivial, trivial⟩

theorem Term.sm_mono {x : Term} (h : Term.sm 1048576 x) : Term.sm 1049600 x := ⟨(Nat.le_trans h.1 (by decide)), (Version.sm_mono h.2.1), (Version.sm_mono h.2.2)⟩

theorem Pack.sm_mono {x : Pack} (h : Pack.sm 1048576 x) : Pack.sm 1049600 x := ⟨(Nat.le_trans h.1 (by decide)), (Version.sm_mono h.2.1), trivial, ⟨Nat.le_trans h.2.2.2.1.1 (by decide), fun y0 z0 => (Nat.le_trans (h.2.2.2.1.2 y0 z0) (by decide))⟩, ⟨Nat.le_trans h.2.2.2.2.1.1 (by decide), fun y0 z0 => ⟨Nat.le_trans (h.2.2.2.2.1.2 y0 z0).1 (by decide), fun y1 z1 => (Term.sm_mono ((h.2.2.2.2.1.2 y0 z0).2 y1 z1))⟩⟩, ⟨Nat.le_trans h.2.2.2.2.2.1 (by decide), fun y0 z0 => (Term.sm_mono (h.2.2.2.2.2.2 y0 z0))⟩⟩

theorem File.sm_mono {x : File} (h : File.sm 1048576 x) : File.sm 1049600 x := ⟨(Nat.le_trans h.1 (by decide)), ⟨Nat.le_trans h.2.1 (by decide), fun y0 z0 => trivial⟩⟩

theorem Disk.sm_mono {x : Disk} (h : Disk.sm 1048576 x) : Disk.sm 1049600 x := ⟨⟨Nat.le_trans h.1.1 (by decide), fun y0 z0 => (File.sm_mono (h.1.2 y0 z0))⟩, trivial, trivial, trivial, trivial⟩

theorem FnExactWholeSet_true (a1 : (List Pack)) (a2 : Disk) (a3 : (List Int)) (k0 : a1.length ≤ maxLen ∧ ∀ y1 ∈ a1, Pack.ok y1) (k1 : Disk.ok a2) (k2 : a3.length ≤ maxLen ∧ ∀ y1 ∈ a3, IntKind.i64.min ≤ y1 ∧ y1 ≤ IntKind.i64.max) (both : (a1.length ≤ 1048576 ∧ ∀ y0 ∈ a1, Pack.sm 1048576 y0) → (Disk.sm 1048576 a2) → (a3.length ≤ 1048576 ∧ ∀ y0 ∈ a3, True) → ∃ r, spec_WholeSet a1 a2 a3 = some r ∧ impl_WholeSet a1 a2 a3 = some r ∧ (True)) : laws_FnExactWholeSet a1 a2 a3 = some true := by
  unfold laws_FnExactWholeSet
  by_cases d1 : (a3.length : Int) > 1048576
  · rw [if_pos (by simpa using d1)]
  rw [if_neg (by simpa using d1)]
  have s_a3 : a3.length ≤ 1048576 ∧ ∀ y0 ∈ a3, True := ⟨by omega, fun _ _ => trivial⟩
  obtain ⟨r2, e2, g2⟩ := szPackS_ok a1 k0 1048576 (by omega) (by omega)
  rw [e2]
  simp only [Option.bind_some]
  by_cases d2 : r2 < 0
  · rw [if_pos (by simpa using d2)]
  rw [if_neg (by simpa using d2)]
  obtain ⟨p2, q2, s_a1⟩ := g2.resolve_left d2
  obtain ⟨r3, e3, g3⟩ := szDisk_ok a2 k1 r2 (by omega) (by omega)
  rw [e3]
  simp only [Option.bind_some]
  by_cases d3 : r3 < 0
  · rw [if_pos (by simpa using d3)]
  rw [if_neg (by simpa using d3)]
  obtain ⟨p3, q3, s_a2⟩ := g3.resolve_left d3
  obtain ⟨r, e1, e2, hr⟩ := both s_a1 s_a2 s_a3
  have m_a1 : a1.length ≤ 1049600 ∧ ∀ y0 ∈ a1, Pack.sm 1049600 y0 := ⟨Nat.le_trans s_a1.1 (by decide), fun y0 z0 => (Pack.sm_mono (s_a1.2 y0 z0))⟩
  have m_a2 : Disk.sm 1049600 a2 := (Disk.sm_mono s_a2)
  have m_a3 : a3.length ≤ 1049600 ∧ ∀ y0 ∈ a3, True := ⟨Nat.le_trans s_a3.1 (by decide), fun y0 z0 => trivial⟩
  simp [e1, e2, toPackS_eq a1 m_a1, eqPackS_self a1 m_a1, toDisk_eq a2 m_a2, eqDisk_self a2 m_a2, toInt64S_eq a3 m_a3, eqInt64S_self a3 m_a3]

/-! ### Texts as lists of bytes -/
def bl (s : ByteArray) : List Int := s.toList.map (fun b => (b.toNat : Int))

theorem bl_length (s : ByteArray) : (bl s).length = s.size := by
  unfold bl
  rw [List.length_map, ByteArray.toList_eq]
  rfl

theorem bidx_nat {s : ByteArray} {i : Nat} (h : i < (bl s).length) : bidx s (i : Int) = some (bl s)[i] := by
  unfold bidx
  rw [if_pos (by omega)]
  have hs : i < s.size := by rw [bl_length] at h; exact h
  have e : s[(i : Int).toNat]? = some s[i] := by simp [hs]
  rw [e]
  simp only [Option.map_some, bl, List.getElem_map]
  congr 2
  simp only [ByteArray.toList_eq]
  rfl

theorem bl_range {s : ByteArray} : ∀ c ∈ bl s, 0 ≤ c ∧ c ≤ 255 := by
  intro c hc
  unfold bl at hc
  obtain ⟨b, _, rfl⟩ := List.mem_map.1 hc
  have := b.toNat_lt
  omega

theorem less_irrefl : ∀ (a : List UInt8), Op.bytesLess a a = false
  | [] => rfl
  | x :: a => by simp [Op.bytesLess, less_irrefl a]

theorem less_trans : ∀ {a b c : List UInt8}, Op.bytesLess a b = true → Op.bytesLess b c = true → Op.bytesLess a c = true
  | _, [], _, h, _ => by simp [Op.bytesLess] at h
  | _, _ :: _, [], _, h => by simp [Op.bytesLess] at h
  | [], _ :: _, _ :: _, _, _ => by simp [Op.bytesLess]
  | x :: a, y :: b, z :: c, h1, h2 => by
    simp only [Op.bytesLess, Bool.or_eq_true, decide_eq_true_eq, Bool.and_eq_true, beq_iff_eq] at h1 h2 ⊢
    rcases h1 with h1 | ⟨rfl, h1⟩
    · rcases h2 with h2 | ⟨rfl, h2⟩
      · exact .inl (UInt8.lt_trans h1 h2)
      · exact .inl h1
    · rcases h2 with h2 | ⟨rfl, h2⟩
      · exact .inl h2
      · exact .inr ⟨rfl, less_trans h1 h2⟩

theorem less_tri : ∀ (a b : List UInt8), Op.bytesLess a b = false → a ≠ b → Op.bytesLess b a = true
  | [], [], _, h => absurd rfl h
  | [], _ :: _, h, _ => by simp [Op.bytesLess] at h
  | _ :: _, [], _, _ => by simp [Op.bytesLess]
  | x :: a, y :: b, h, hne => by
    simp only [Op.bytesLess, Bool.or_eq_false_iff, decide_eq_false_iff_not, Bool.and_eq_false_iff, beq_eq_false_iff_ne] at h
    simp only [Op.bytesLess, Bool.or_eq_true, decide_eq_true_eq, Bool.and_eq_true, beq_iff_eq]
    by_cases hxy : x = y
    · subst hxy
      refine .inr ⟨rfl, less_tri a b ?_ (fun e => hne (by rw [e]))⟩
      rcases h.2 with h' | h'
      · exact absurd rfl h'
      · exact h'
    · refine .inl ?_
      have := h.1
      rw [UInt8.lt_iff_toNat_lt] at this ⊢
      have : x.toNat ≠ y.toNat := fun e => hxy (UInt8.toNat_inj.1 e)
      omega

theorem toList_inj {a b : ByteArray} (h : a.toList = b.toList) : a = b := by
  rw [ByteArray.toList_eq, ByteArray.toList_eq] at h
  cases a; cases b
  simp at h
  rw [h]

theorem slt_irrefl (a : ByteArray) : slt a a = false := less_irrefl _

theorem slt_trans {a b c : ByteArray} (h1 : slt a b = true) (h2 : slt b c = true) : slt a c = true := less_trans h1 h2

theorem slt_tri {a b : ByteArray} (h : slt a b = false) (hne : a ≠ b) : slt b a = true := less_tri _ _ h (fun e => hne (toList_inj e))

theorem seq_iff {a b : ByteArray} : seq a b = true ↔ a = b := by
  unfold seq
  simp only [beq_iff_eq]
  exact ⟨toList_inj, fun e => by rw [e]⟩

theorem seq_eq (a b : ByteArray) : seq a b = decide (a = b) := by
  rw [Bool.eq_iff_iff, seq_iff]; simp

theorem in_eq (a b c : Int) : spec_l1In a b c = some (decide (a ≥ b) && decide (a ≤ c)) := by
  unfold spec_l1In
  cases decide (a ≥ b) <;> rfl

/-! ### Decimals -/
theorem bl_append (a b : ByteArray) : bl (a ++ b) = bl a ++ bl b := by
  unfold bl
  rw [ByteArray.toList_eq, ByteArray.toList_eq, ByteArray.toList_eq]
  simp

theorem bl_inj {a b : ByteArray} : bl a = bl b ↔ a = b := by
  constructor
  · intro h
    unfold bl at h
    refine toList_inj ?_
    have hinj : ∀ (x y : List UInt8), x.map (fun b => (b.toNat : Int)) = y.map (fun b => (b.toNat : Int)) → x = y := by
      intro x
      induction x with
      | nil => intro y h; cases y <;> simp_all
      | cons u x ih =>
        intro y h
        cases y with
        | nil => simp at h
        | cons v y =>
          simp only [List.map_cons, List.cons.injEq] at h
          rw [ih y h.2]
          have : u.toNat = v.toNat := by omega
          rw [UInt8.toNat_inj.1 this]
    exact hinj _ _ h
  · intro h; rw [h]

theorem seq_bl (a b : ByteArray) : seq a b = decide (bl a = bl b) := by
  rw [seq_eq]
  simp [bl_inj]

theorem bl_b2s1 {c : Int} (h0 : 0 ≤ c) (h1 : c ≤ 255) : bl (b2s [c]) = [c] := by
  unfold bl b2s
  rw [ByteArray.toList_eq]
  simp only [List.foldl_cons, List.foldl_nil]
  show [((UInt8.ofNat c.toNat).toNat : Int)] = [c]
  simp
  omega

theorem wrap_u8 {c : Int} (h0 : 0 ≤ c) (h1 : c ≤ 255) : IntKind.u8.wrap c = c := by
  simp only [IntKind.wrap, IntKind.signed, IntKind.bits]
  simp
  omega

/-- The digits of a number. -/
def decL (n : Nat) : List Int := if n < 10 then [48 + (n : Int)] else decL (n / 10) ++ [48 + ((n % 10 : Nat) : Int)]
termination_by n
decreasing_by omega

theorem decL_small {n : Nat} (h : n < 10) : decL n = [48 + (n : Int)] := by rw [decL, if_pos h]

theorem decL_big {n : Nat} (h : ¬ n < 10) : decL n = decL (n / 10) ++ [48 + ((n % 10 : Nat) : Int)] := by rw [decL, if_neg h]

theorem decL_le : ∀ (k n : Nat), n < 10 ^ (k + 1) → (decL n).length ≤ k + 1
  | 0, n, h => by rw [decL_small (by simpa using h)]; simp
  | k + 1, n, h => by
    by_cases hn : n < 10
    · rw [decL_small hn]; simp
    · rw [Nat.pow_succ] at h
      rw [decL_big hn, List.length_append]
      have := decL_le k (n / 10) (by omega)
      simp only [List.length_singleton]
      omega

theorem l1Decimal_r_eq (g : Int → Option ByteArray) (a1 : Int) : spec_l1Decimal_r g a1 = if decide (a1 < 10) then some (b2s [IntKind.u8.wrap (w64 (48 + a1))]) else (g (w64 (a1.tdiv 10))).bind fun x3 => (cat x3 (b2s [IntKind.u8.wrap (w64 (48 + (a1.tmod 10)))])).bind fun x5 => some x5 := rfl

theorem l1Decimal_fuel : ∀ (k f n : Nat), n < 10 ^ (k + 1) → k < f → n ≤ 9000000000000000000 → k ≤ 100 → ∃ s, recF spec_l1Decimal_r f (n : Int) = some s ∧ bl s = decL n
  | k, 0, n, _, hf, _, _ => by omega
  | k, f + 1, n, h, hf, hn, hk => by
    rw [show recF spec_l1Decimal_r (f + 1) (n : Int) = spec_l1Decimal_r (recF spec_l1Decimal_r f) (n : Int) from rfl, l1Decimal_r_eq]
    by_cases h1 : n < 10
    · rw [if_pos (by simp; omega), w64_of (by omega) (by omega), wrap_u8 (by omega) (by omega)]
      exact ⟨_, rfl, by rw [bl_b2s1 (by omega) (by omega), decL_small h1]⟩
    · rw [if_neg (by simp; omega)]
      cases k with
      | zero => simp at h; omega
      | succ k =>
        have e1 : w64 ((n : Int).tdiv 10) = ((n / 10 : Nat) : Int) := by
          rw [Int.tdiv_eq_ediv_of_nonneg (by omega), w64_of (by omega) (by omega)]; omega
        have e2 : (n : Int).tmod 10 = ((n % 10 : Nat) : Int) := by
          rw [Int.tmod_eq_emod_of_nonneg (by omega)]; omega
        rw [Nat.pow_succ] at h
        obtain ⟨s, e, hs⟩ := l1Decimal_fuel k f (n / 10) (by omega) (by omega) (by omega) (by omega)
        rw [e1, e2, e, w64_of (by omega) (by omega), wrap_u8 (by omega) (by omega)]
        have hsz : s.size ≤ k + 1 := by
          rw [← bl_length, hs]
          exact decL_le k (n / 10) (by omega)
        simp only [Option.bind_some]
        unfold cat
        rw [if_pos (by have : (b2s [48 + ((n % 10 : Nat) : Int)]).size = 1 := rfl; omega)]
        exact ⟨_, rfl, by rw [bl_append, hs, bl_b2s1 (by omega) (by omega), decL_big h1]⟩

theorem l1Decimal_some (n : Nat) (h : n ≤ 9000000000000000000) : ∃ s, spec_l1Decimal (n : Int) = some s ∧ bl s = decL n :=
  l1Decimal_fuel 18 64 n (by omega) (by omega) h (by omega)

theorem bl_bs (l : List UInt8) : bl (bs l) = l.map (fun b => (b.toNat : Int)) := by
  unfold bl bs
  rw [ByteArray.toList_eq]

theorem cat_of {a b : ByteArray} (h : a.size + b.size ≤ 1099511627776) : cat a b = some (a ++ b) := if_pos h

theorem ba_assoc (a b c : ByteArray) : a ++ b ++ c = a ++ (b ++ c) := bl_inj.1 (by simp only [bl_append, List.append_assoc])

theorem ba_size (a b : ByteArray) : (a ++ b).size = a.size + b.size := by
  rw [← bl_length, bl_append, List.length_append, bl_length, bl_length]

theorem u8_ofNat_toNat {n : Nat} (h : n < 256) : (UInt8.ofNat n).toNat = n := by
  simp [Nat.mod_eq_of_lt h]

theorem decDigits_eq : ∀ (n : Nat), (Lib.decDigits n).map (fun b => (b.toNat : Int)) = decL n := by
  intro n
  induction n using Nat.strongRecOn with
  | ind n ih =>
    rw [Lib.decDigits]
    by_cases h : n < 10
    · rw [dif_pos h, decL_small h]
      simp only [List.map_cons, List.map_nil]
      rw [u8_ofNat_toNat (by omega)]
      simp
    · rw [dif_neg h, decL_big h, List.map_append, ih (n / 10) (by omega)]
      simp only [List.map_cons, List.map_nil]
      rw [u8_ofNat_toNat (by omega)]
      simp

/-- The text of a number. -/
def decS (n : Nat) : ByteArray := ⟨(Lib.decDigits n).toArray⟩

theorem bl_decS (n : Nat) : bl (decS n) = decL n := by
  unfold bl decS
  rw [ByteArray.toList_eq]
  exact decDigits_eq n

theorem l1Decimal_eq (n : Nat) (h : n ≤ 9000000000000000000) : spec_l1Decimal (n : Int) = some (decS n) := by
  obtain ⟨s, e, hs⟩ := l1Decimal_some n h
  rw [e, bl_inj.1 (hs.trans (bl_decS n).symm)]

/-! ### strconv.FormatInt -/
theorem FormatInt_eq (n : Nat) (h : n ≤ 9000000000000000000) : strconv_FormatInt (n : Int) 10 = some (decS n) := by
  unfold strconv_FormatInt
  rw [if_pos (by omega)]
  unfold Lib.itoa decS
  rw [if_neg (by omega)]
  simp

/-! ### Bounds -/
def inB (a b c : Int) : Bool := decide (b ≤ a) && decide (a ≤ c)

theorem l1In_eq (a b c : Int) : spec_l1In a b c = some (inB a b c) := by
  unfold spec_l1In inB
  by_cases h : a ≥ b <;> simp [h]

theorem within_eq (a b c : Int) : impl_within a b c = some (inB a b c) := by
  unfold impl_within inB
  by_cases h : b ≤ a <;> simp [h]

section del
variable {α : Type} (p : α → Bool)

theorem lsub_of {xs : List α} {l h : Nat} (h1 : l ≤ h) (h2 : h ≤ xs.length) : lsub xs (l : Int) (h : Int) = some ((xs.drop l).take (h - l)) := by
  unfold lsub
  rw [if_pos (by omega)]
  rfl

theorem clrw_of {xs : List α} {l n : Nat} {a : α} (h : l + n ≤ xs.length) : clrw xs (l : Int) n a = some (xs.take l ++ List.replicate n a ++ xs.drop (l + n)) := by
  unfold clrw
  rw [if_pos (by omega)]
  simp [ovr]

/-- The first one that is meant; else the end. -/
theorem ixf_loop {R : Type} (a1 : List α) (out : Int → R) {b : Int → Option (Lp Int (Fl R Unit))} (hl : a1.length < 9223372036854775807)
    (hstep : ∀ (i : Nat) (hi : i < a1.length), b (i : Int) = some (if p a1[i] then .done (.ret (out i)) else .go ((i + 1 : Nat) : Int))) (hend : b (a1.length : Int) = some (.done (.nxt ()))) :
    ∃ t, loop b 0 = some t ∧ ((t = .nxt () ∧ ∀ x ∈ a1, p x = false) ∨ ∃ i : Nat, ∃ hi : i < a1.length, t = .ret (out i) ∧ p a1[i] = true ∧ ∀ x ∈ a1.take i, p x = false) := by
  refine loop_up (b := b) (fun i s => s = (i : Int) ∧ ∀ x ∈ a1.take i, p x = false) a1.length _ (by
    rintro i s hi ⟨rfl, hn⟩
    have e := hstep i hi
    cases hp : p a1[i]
    · rw [hp] at e
      refine .inl ⟨_, e, rfl, fun x hx => ?_⟩
      rw [List.take_succ_eq_append_getElem hi] at hx
      rcases List.mem_append.1 hx with hx | hx
      · exact hn x hx
      · simp at hx; rw [hx]; exact hp
    · rw [hp] at e
      exact .inr ⟨_, e, .inr ⟨i, hi, rfl, hp, hn⟩⟩) (by
    rintro s ⟨rfl, hn⟩
    rw [List.take_length] at hn
    exact ⟨_, hend, .inl ⟨rfl, hn⟩⟩) a1.length 0 0 (by omega) ⟨rfl, by simp⟩

theorem set_take {xs : List α} {i : Nat} {x : α} (h : i < xs.length) : (xs.set i x).take (i + 1) = xs.take i ++ [x] := by
  rw [List.take_succ_eq_append_getElem (by simpa using h), List.take_set_of_le (Nat.le_refl _)]
  simp

theorem set_drop {xs : List α} {i j : Nat} {x : α} (h : i < j) : (xs.set i x).drop j = xs.drop j := by
  rw [List.drop_set_of_lt h]

/-- What stays is moved to the front. -/
theorem del_loop (a : List α) {b : (List α × Int × Int) → Option (Lp (List α × Int × Int) (List α × Int))} (hl : a.length < 9223372036854775807)
    (hstep : ∀ (xs : List α) (i j : Nat) (hj : j < xs.length), i ≤ j → xs.length = a.length → b (xs, (i : Int), (j : Int)) = some (.go (if p xs[j] then (xs, (i : Int), ((j + 1 : Nat) : Int)) else (xs.set i xs[j], ((i + 1 : Nat) : Int), ((j + 1 : Nat) : Int)))))
    (hend : ∀ (xs : List α) (i : Nat), xs.length = a.length → b (xs, (i : Int), (xs.length : Int)) = some (.done (xs, (i : Int)))) (i0 j0 : Nat) (hij : i0 ≤ j0) (hj0 : j0 ≤ a.length) (h0 : a.take i0 = (a.take j0).filter (fun x => !p x)) :
    ∃ ys : List α, loop b (a, (i0 : Int), (j0 : Int)) = some (ys, ((a.filter (fun x => !p x)).length : Int)) ∧ ys.length = a.length ∧ ys.take (a.filter (fun x => !p x)).length = a.filter (fun x => !p x) := by
  obtain ⟨t, e, h⟩ := loop_up (b := b) (fun j s => s.1.length = a.length ∧ s.1.drop j = a.drop j ∧ s.2.2 = (j : Int) ∧ ∃ i : Nat, s.2.1 = (i : Int) ∧ i ≤ j ∧ s.1.take i = (a.take j).filter (fun x => !p x)) a.length
    (fun t => t.1.length = a.length ∧ ∃ i : Nat, t.2 = (i : Int) ∧ i ≤ a.length ∧ t.1.take i = a.filter (fun x => !p x)) (by
    rintro j ⟨xs, i', j'⟩ hj ⟨hxl, hxd, hjj, i, hi, hle, ht⟩
    simp only at hxl hxd hjj hi ht
    subst hjj hi
    have hjx : j < xs.length := by omega
    have hx : xs[j] = a[j] := by
      have := congrArg (fun l => l[0]?) hxd
      simp only [List.getElem?_drop, Nat.add_zero] at this
      rw [List.getElem?_eq_getElem hjx, List.getElem?_eq_getElem hj] at this
      exact Option.some.inj this
    have e := hstep xs i j hjx hle hxl
    have htk : (a.take (j + 1)).filter (fun x => !p x) = (a.take j).filter (fun x => !p x) ++ (if p a[j] then [] else [a[j]]) := by
      rw [List.take_succ_eq_append_getElem hj, List.filter_append]
      cases h : p a[j] <;> simp [h]
    have hd1 : a.drop (j + 1) = xs.drop (j + 1) := by
      have := congrArg (List.drop 1) hxd
      simpa [List.drop_drop] using this.symm
    rw [hx] at e
    cases hp : p a[j]
    · rw [hp] at e htk
      refine .inl ⟨_, e, by simpa using hxl, ?_, rfl, i + 1, rfl, by omega, ?_⟩
      · show (xs.set i a[j]).drop (j + 1) = a.drop (j + 1)
        rw [set_drop (by omega), hd1]
      · show (xs.set i a[j]).take (i + 1) = _
        rw [set_take (by omega), htk, ht]
        rfl
    · rw [hp] at e htk
      refine .inl ⟨_, e, hxl, ?_, rfl, i, rfl, by omega, ?_⟩
      · exact hd1.symm
      · show xs.take i = _
        rw [htk, ht]
        simp) (by
    rintro ⟨xs, i', j'⟩ ⟨hxl, hxd, hjj, i, hi, hle, ht⟩
    simp only at hxl hxd hjj hi ht
    subst hjj hi
    have e := hend xs i hxl
    rw [hxl] at e
    refine ⟨_, e, hxl, i, rfl, hle, ?_⟩
    rw [List.take_length] at ht
    exact ht) (a.length - j0) j0 (a, (i0 : Int), (j0 : Int)) (by omega) ⟨rfl, rfl, rfl, i0, rfl, hij, h0⟩
  obtain ⟨ys, i'⟩ := t
  obtain ⟨h1, i, h2, h3, h4⟩ := h
  simp only at h1 h2 h4
  subst h2
  have hlen : i = (a.filter (fun x => !p x)).length := by rw [← h4]; simp; omega
  subst hlen
  exact ⟨ys, e, h1, h4⟩

/-- The same, where the elements are known to be of the list. -/
theorem del_loop2 (a : List α) {b : (List α × Int × Int) → Option (Lp (List α × Int × Int) (List α × Int))} (hl : a.length < 9223372036854775807)
    (hstep : ∀ (xs : List α) (i j : Nat) (hj : j < xs.length), i ≤ j → xs.length = a.length → xs[j] ∈ a → b (xs, (i : Int), (j : Int)) = some (.go (if p xs[j] then (xs, (i : Int), ((j + 1 : Nat) : Int)) else (xs.set i xs[j], ((i + 1 : Nat) : Int), ((j + 1 : Nat) : Int)))))
    (hend : ∀ (xs : List α) (i : Nat), xs.length = a.length → b (xs, (i : Int), (xs.length : Int)) = some (.done (xs, (i : Int)))) (i0 j0 : Nat) (hij : i0 ≤ j0) (hj0 : j0 ≤ a.length) (h0 : a.take i0 = (a.take j0).filter (fun x => !p x)) :
    ∃ ys : List α, loop b (a, (i0 : Int), (j0 : Int)) = some (ys, ((a.filter (fun x => !p x)).length : Int)) ∧ ys.length = a.length ∧ ys.take (a.filter (fun x => !p x)).length = a.filter (fun x => !p x) := by
  obtain ⟨t, e, h⟩ := loop_up (b := b) (fun j s => s.1.length = a.length ∧ s.1.drop j = a.drop j ∧ s.2.2 = (j : Int) ∧ ∃ i : Nat, s.2.1 = (i : Int) ∧ i ≤ j ∧ s.1.take i = (a.take j).filter (fun x => !p x)) a.length
    (fun t => t.1.length = a.length ∧ ∃ i : Nat, t.2 = (i : Int) ∧ i ≤ a.length ∧ t.1.take i = a.filter (fun x => !p x)) (by
    rintro j ⟨xs, i', j'⟩ hj ⟨hxl, hxd, hjj, i, hi, hle, ht⟩
    simp only at hxl hxd hjj hi ht
    subst hjj hi
    have hjx : j < xs.length := by omega
    have hx : xs[j] = a[j] := by
      have := congrArg (fun l => l[0]?) hxd
      simp only [List.getElem?_drop, Nat.add_zero] at this
      rw [List.getElem?_eq_getElem hjx, List.getElem?_eq_getElem hj] at this
      exact Option.some.inj this
    have e := hstep xs i j hjx hle hxl (by rw [hx]; exact List.getElem_mem hj)
    have htk : (a.take (j + 1)).filter (fun x => !p x) = (a.take j).filter (fun x => !p x) ++ (if p a[j] then [] else [a[j]]) := by
      rw [List.take_succ_eq_append_getElem hj, List.filter_append]
      cases h : p a[j] <;> simp [h]
    have hd1 : a.drop (j + 1) = xs.drop (j + 1) := by
      have := congrArg (List.drop 1) hxd
      simpa [List.drop_drop] using this.symm
    rw [hx] at e
    cases hp : p a[j]
    · rw [hp] at e htk
      refine .inl ⟨_, e, by simpa using hxl, ?_, rfl, i + 1, rfl, by omega, ?_⟩
      · show (xs.set i a[j]).drop (j + 1) = a.drop (j + 1)
        rw [set_drop (by omega), hd1]
      · show (xs.set i a[j]).take (i + 1) = _
        rw [set_take (by omega), htk, ht]
        rfl
    · rw [hp] at e htk
      refine .inl ⟨_, e, hxl, ?_, rfl, i, rfl, by omega, ?_⟩
      · exact hd1.symm
      · show xs.take i = _
        rw [htk, ht]
        simp) (by
    rintro ⟨xs, i', j'⟩ ⟨hxl, hxd, hjj, i, hi, hle, ht⟩
    simp only at hxl hxd hjj hi ht
    subst hjj hi
    have e := hend xs i hxl
    rw [hxl] at e
    refine ⟨_, e, hxl, i, rfl, hle, ?_⟩
    rw [List.take_length] at ht
    exact ht) (a.length - j0) j0 (a, (i0 : Int), (j0 : Int)) (by omega) ⟨rfl, rfl, rfl, i0, rfl, hij, h0⟩
  obtain ⟨ys, i'⟩ := t
  obtain ⟨h1, i, h2, h3, h4⟩ := h
  simp only at h1 h2 h4
  subst h2
  have hlen : i = (a.filter (fun x => !p x)).length := by rw [← h4]; simp; omega
  subst hlen
  exact ⟨ys, e, h1, h4⟩

theorem fin_del {a ys : List α} (zero : α) (h1 : ys.length = a.length) (h2 : ys.take (a.filter (fun x => !p x)).length = a.filter (fun x => !p x)) :
    (lsub ys ((a.filter (fun x => !p x)).length : Int) (ys.length : Int)).bind (fun r => (clrw ys ((a.filter (fun x => !p x)).length : Int) r.length zero).bind fun z => (lsub z 0 ((a.filter (fun x => !p x)).length : Int)).bind fun q => some q) = some (a.filter (fun x => !p x)) := by
  have hle : (a.filter (fun x => !p x)).length ≤ ys.length := by rw [h1]; exact List.length_filter_le _ _
  rw [lsub_of hle (Nat.le_refl _)]
  simp only [Option.bind_some]
  rw [clrw_of (by simp; omega)]
  simp only [Option.bind_some]
  have : lsub (List.take (List.filter (fun x => !p x) a).length ys ++ List.replicate (List.take (ys.length - (List.filter (fun x => !p x) a).length) (List.drop (List.filter (fun x => !p x) a).length ys)).length zero ++
          List.drop ((List.filter (fun x => !p x) a).length + (List.take (ys.length - (List.filter (fun x => !p x) a).length) (List.drop (List.filter (fun x => !p x) a).length ys)).length) ys) ((0 : Nat) : Int) ((a.filter (fun x => !p x)).length : Int) = some (a.filter (fun x => !p x)) := by
    rw [lsub_of (by omega) (by simp; omega)]
    rw [h2]
    simp
  exact (congrArg (fun o => Option.bind o fun q => some q) this)

/-- slices.DeleteFunc, as it is told. -/
theorem del_gen (a : List α) (zero : α) (hl : a.length ≤ 1048577) {b1 : Int → Option (Lp Int (Fl Int Unit))} {b2 : (List α × Int × Int) → Option (Lp (List α × Int × Int) (List α × Int))}
    (h1 : ∀ (i : Nat) (hi : i < a.length), b1 (i : Int) = some (if p a[i] then .done (.ret (i : Int)) else .go ((i + 1 : Nat) : Int))) (h1e : b1 (a.length : Int) = some (.done (.nxt ())))
    (h2 : ∀ (xs : List α) (i j : Nat) (hj : j < xs.length), i ≤ j → xs.length = a.length → xs[j] ∈ a → b2 (xs, (i : Int), (j : Int)) = some (.go (if p xs[j] then (xs, (i : Int), ((j + 1 : Nat) : Int)) else (xs.set i xs[j], ((i + 1 : Nat) : Int), ((j + 1 : Nat) : Int)))))
    (h2e : ∀ (xs : List α) (i : Nat), xs.length = a.length → b2 (xs, (i : Int), (xs.length : Int)) = some (.done (xs, (i : Int)))) :
    ((loop b1 0).bind (Fl.go some fun _ => some (-1))).bind (fun x4 => if x4 == (-1) then (some a) else ((loop b2 (a, x4, w64 (x4 + 1))).bind fun v26 => (lsub v26.1 v26.2 (v26.1.length : Int)).bind fun x27 => (clrw v26.1 v26.2 x27.length zero).bind fun x29 => (lsub x29 0 v26.2).bind fun x31 => some x31)) = some (a.filter (fun x => !p x)) := by
  obtain ⟨t, e, h⟩ := ixf_loop p a (fun i => i) (b := b1) (by omega) h1 h1e
  rw [e]
  rcases h with ⟨rfl, hn⟩ | ⟨i, hi, rfl, hp, hn⟩
  · show some a = _
    congr 1
    exact (List.filter_eq_self.2 (fun x hx => by rw [hn x hx]; rfl)).symm
  · simp only [Option.bind_some, Fl.go]
    rw [if_neg (by simp), w64_nat (by omega)]
    obtain ⟨ys, e2, h3, h4⟩ := del_loop2 p a (b := b2) (by omega) h2 h2e i (i + 1) (by omega) (by omega) (by
      rw [List.take_succ_eq_append_getElem hi, List.filter_append]
      rw [List.filter_eq_self.2 (fun x hx => by rw [hn x hx]; rfl)]
      simp [hp])
    rw [e2]
    simp only [Option.bind_some]
    exact fin_del p zero h3 h4
end del

/-! ### Walks that stop at the first one -/
def scanL {α R : Type} (g : Nat → α → Option R) : Nat → List α → Option R
  | _, [] => none
  | i, x :: xs => match g i x with
    | some r => some r
    | none => scanL g (i + 1) xs

def frs {R : Type} : Option R → Fl R Unit
  | some r => .ret r
  | none => .nxt ()

theorem loop_scanI {α R : Type} (xs : List α) (g : Nat → α → Option R) {b : Int → Option (Lp Int (Fl R Unit))}
    (hstep : ∀ (i : Nat) (hi : i < xs.length), b (i : Int) = some (match g i xs[i] with | some r => .done (.ret r) | none => .go ((i + 1 : Nat) : Int))) (hend : b (xs.length : Int) = some (.done (.nxt ()))) :
    ∀ (k i : Nat), i + k = xs.length → loop b (i : Int) = some (frs (scanL g i (xs.drop i)))
  | 0, i, h => by
    have e : i = xs.length := by omega
    subst e
    rw [loop_eq, hend, List.drop_length]
    rfl
  | k + 1, i, h => by
    have hi : i < xs.length := by omega
    have ih := loop_scanI xs g hstep hend k (i + 1) (by omega)
    rw [loop_eq, hstep i hi, List.drop_eq_getElem_cons hi]
    simp only [scanL]
    cases g i xs[i] with
    | some r => rfl
    | none => exact ih

theorem loop_scan {α R : Type} (xs : List α) (g : Nat → α → Option R) {b : Int → Option (Lp Int (Fl R Unit))}
    (hstep : ∀ (i : Nat) (hi : i < xs.length), b (i : Int) = some (match g i xs[i] with | some r => .done (.ret r) | none => .go ((i + 1 : Nat) : Int))) (hend : b (xs.length : Int) = some (.done (.nxt ()))) :
    loop b 0 = some (frs (scanL g 0 xs)) := by
  have := loop_scanI xs g hstep hend xs.length 0 (by omega)
  simpa using this

theorem frs_go {R T : Type} (o : Option R) (f : R → Option T) (h : Unit → Option T) : (some (frs o)).bind (Fl.go f h) = match o with | some r => f r | none => h () := by
  cases o <;> rfl

/-- The place of the first one. -/
theorem scan_place {α : Type} (p : α → Bool) : ∀ (xs : List α) (i : Nat), ((scanL (fun j x => if p x then some (j : Int) else none) i xs).getD (-1) ≥ 0) ↔ xs.any p = true
  | [], i => by simp [scanL]
  | x :: xs, i => by
    simp only [scanL]
    cases h : p x
    · simp only [Bool.false_eq_true, if_false, List.any_cons, h, Bool.false_or]
      exact scan_place p xs (i + 1)
    · simp [h]

theorem scan_bool {α : Type} (p : α → Bool) : ∀ (xs : List α) (i : Nat), (scanL (fun _ x => if p x then some true else none) i xs).getD false = xs.any p
  | [], i => rfl
  | x :: xs, i => by
    simp only [scanL]
    cases h : p x
    · simp only [Bool.false_eq_true, if_false, List.any_cons, h, Bool.false_or]
      exact scan_bool p xs (i + 1)
    · simp [h]

def foldI {α A : Type} (f : Nat → A → α → A) : Nat → List α → A → A
  | _, [], a => a
  | i, x :: xs, a => foldI f (i + 1) xs (f i a x)

theorem loop_foldI {α A : Type} (xs : List α) (f : Nat → A → α → A) (I : Nat → A → Prop) {b : (A × Int) → Option (Lp (A × Int) A)}
    (hstep : ∀ (i : Nat) (a : A) (hi : i < xs.length), I i a → b (a, (i : Int)) = some (.go (f i a xs[i], ((i + 1 : Nat) : Int))) ∧ I (i + 1) (f i a xs[i])) (hend : ∀ a, b (a, (xs.length : Int)) = some (.done a)) :
    ∀ (k i : Nat) (a : A), i + k = xs.length → I i a → loop b (a, (i : Int)) = some (foldI f i (xs.drop i) a) ∧ I xs.length (foldI f i (xs.drop i) a)
  | 0, i, a, h, hI => by
    have e : i = xs.length := by omega
    subst e
    rw [loop_eq, hend, List.drop_length]
    exact ⟨rfl, hI⟩
  | k + 1, i, a, h, hI => by
    have hi : i < xs.length := by omega
    obtain ⟨h1, h2⟩ := hstep i a hi hI
    have ih := loop_foldI xs f I hstep hend k (i + 1) _ (by omega) h2
    rw [loop_eq, h1, List.drop_eq_getElem_cons hi]
    exact ih

theorem place_ge {o : Option Int} {b : Bool} (h : (o.getD (-1) ≥ 0) ↔ b = true) : decide (o.getD (-1) ≥ 0) = b := by
  rw [Bool.eq_iff_iff, decide_eq_true_eq]; exact h

/-! ### Paths and disks -/
def nameB (c : Int) : Bool := (decide (c ≥ 97) && decide (c ≤ 122)) || (decide (c ≥ 48) && decide (c ≤ 57)) || c == 95

def pathB (c : Int) : Bool := nameB c || c == 46 || c == 45 || c == 47

theorem spec_l1Name_eq (c : Int) : spec_l1Name c = some (nameB c) := by
  unfold spec_l1Name spec_l1Letter spec_l1Digit nameB
  cases decide (c ≥ 97) <;> cases decide (c ≤ 122) <;> cases decide (c ≥ 48) <;> cases decide (c ≤ 57) <;> rfl

theorem spec_l7Byte_eq (c : Int) : spec_l7Byte c = some (pathB c) := by
  unfold spec_l7Byte pathB
  rw [spec_l1Name_eq]
  cases nameB c <;> cases (c == 46) <;> cases (c == 45) <;> cases (c == 47) <;> rfl

theorem impl_isNameByte_eq (c : Int) : impl_isNameByte c = some (nameB c) := by
  unfold impl_isNameByte nameB
  cases decide (c ≥ 97) <;> cases decide (c ≤ 122) <;> cases decide (c ≥ 48) <;> cases decide (c ≤ 57) <;> rfl

theorem PathFault_eq (s : ByteArray) : impl_PathFault s = spec_PathFault s := by
  unfold impl_PathFault spec_PathFault
  have : impl_PathFault_l1 s = spec_PathFault_l1 s := by
    unfold impl_PathFault_l1 spec_PathFault_l1
    refine loop_congr fun i => ?_
    unfold impl_PathFault_l1b spec_PathFault_l1b
    split
    · congr 1
      funext c
      rw [spec_l7Byte_eq, impl_isNameByte_eq]
      unfold pathB
      simp only [bne]
      cases nameB c <;> cases (c == 46) <;> cases (c == 45) <;> cases (c == 47) <;> rfl
    · rfl
  rw [this]

def pathOk (s : ByteArray) : Prop := 1 ≤ s.size ∧ s.size ≤ 40 ∧ ∀ c ∈ bl s, pathB c = true

theorem PathFault_spec (s : ByteArray) : (pathOk s ∧ spec_PathFault s = some 0) ∨ (¬ pathOk s ∧ spec_PathFault s = some 5) := by
  unfold spec_PathFault
  by_cases h1 : s.size < 1
  · refine .inr ⟨fun h => by have := h.1; omega, ?_⟩
    rw [if_pos (by simp; omega)]; rfl
  · rw [if_neg (by simp; omega)]
    simp only [Option.bind_some]
    by_cases h2 : s.size > 40
    · refine .inr ⟨fun h => by have := h.2.1; omega, ?_⟩
      rw [if_pos (by simp; omega)]
    · rw [if_neg (by simp; omega)]
      obtain ⟨t, e, h⟩ := loop_up (b := spec_PathFault_l1b s) (fun i j => j = (i : Int) ∧ ∀ k, (hk : k < (bl s).length) → k < i → pathB (bl s)[k] = true) (bl s).length (fun t => match t with | .ret r => r = 5 ∧ ¬ pathOk s | .nxt _ => ∀ c ∈ bl s, pathB c = true) (by
        rintro i j hi ⟨rfl, hp⟩
        have hs := bl_length s
        unfold spec_PathFault_l1b
        rw [if_pos (by simp; omega), bidx_nat hi]
        simp only [Option.bind_some, spec_l7Byte_eq]
        cases hb : pathB (bl s)[i] with
        | false => exact .inr ⟨_, rfl, rfl, fun h => by have := h.2.2 _ (List.getElem_mem hi); rw [hb] at this; cases this⟩
        | true =>
          rw [w64_nat (by omega)]
          refine .inl ⟨_, rfl, rfl, fun k hk hki => ?_⟩
          rcases Nat.lt_or_ge k i with h | h
          · exact hp k hk h
          · have : k = i := by omega
            subst this; exact hb) (by
        rintro j ⟨rfl, hp⟩
        unfold spec_PathFault_l1b
        rw [if_neg (by simp [bl_length])]
        refine ⟨_, rfl, fun c hc => ?_⟩
        obtain ⟨k, hk, rfl⟩ := List.getElem_of_mem hc
        exact hp k hk hk) (bl s).length 0 0 (by omega) ⟨rfl, fun k _ h => by omega⟩
      simp only [spec_PathFault_l1, e, Option.bind_some]
      cases t with
      | ret r =>
        obtain ⟨rfl, h⟩ := h
        exact .inr ⟨h, rfl⟩
      | nxt u => exact .inl ⟨⟨by omega, by omega, h⟩, rfl⟩

theorem PathFault_some (s : ByteArray) : ∃ r, spec_PathFault s = some r ∧ (r = 0 ↔ pathOk s) := by
  rcases PathFault_spec s with ⟨h1, h2⟩ | ⟨h1, h2⟩
  · exact ⟨0, h2, by simp [h1]⟩
  · exact ⟨5, h2, by simp [h1]⟩

def total (fs : List File) : Int := match fs with
  | [] => 0
  | f :: fs => f.Data.length + total fs

theorem total_append : ∀ (l r : List File), total (l ++ r) = total l + total r
  | [], r => by simp [total]
  | f :: l, r => by simp only [List.cons_append, total, total_append l r]; omega

theorem total_nonneg : ∀ (l : List File), 0 ≤ total l
  | [] => Int.le_refl _
  | f :: l => by have := total_nonneg l; simp only [total]; omega

theorem total_le : ∀ (l : List File) (C : Int), 0 ≤ C → (∀ f ∈ l, (f.Data.length : Int) ≤ C) → total l ≤ l.length * C
  | [], C, _, _ => by simp [total]
  | f :: l, C, hC, h => by
    have h1 := h f (by simp)
    have h2 := total_le l C hC (fun g hg => h g (by simp [hg]))
    simp only [total, List.length_cons, Int.natCast_add, Int.add_mul]
    omega

/-- The bytes of all files. -/
theorem l7Total_eq (d : Disk) (h : d.Files.length ≤ 1048576) (hf : ∀ f ∈ d.Files, f.Data.length ≤ 1048576) : spec_l7Total d = some (total d.Files) := by
  have htot := total_le d.Files 1048576 (by omega) (fun f hm => by have := hf f hm; omega)
  have hb : ((d.Files.length : Int)) * 1048576 ≤ 1048576 * 1048576 := Int.mul_le_mul_of_nonneg_right (by omega) (by omega)
  obtain ⟨t, e, rfl⟩ := loop_up (b := spec_l7Total_l1b d) (fun i s => s = (total (d.Files.take i), (i : Int))) d.Files.length (fun t => t = total d.Files) (by
    rintro i s hi rfl
    unfold spec_l7Total_l1b
    rw [if_pos (by simp; omega)]
    have hsplit : total (d.Files.take (i + 1)) = total (d.Files.take i) + d.Files[i].Data.length := by
      rw [List.take_succ_eq_append_getElem hi, total_append]
      simp [total]
    have hle : total d.Files = total (d.Files.take (i + 1)) + total (d.Files.drop (i + 1)) := by rw [← total_append, List.take_append_drop]
    have h1 := total_nonneg (d.Files.take i)
    have h2 := total_nonneg (d.Files.drop (i + 1))
    simp only [idx_nat hi, Option.bind_some]
    rw [w64_of (by omega) (by omega), w64_nat (by omega)]
    exact .inl ⟨_, rfl, by rw [hsplit]⟩) (by
    rintro s rfl
    unfold spec_l7Total_l1b
    rw [if_neg (by simp)]
    exact ⟨_, rfl, by simp⟩) d.Files.length 0 (0, 0) (by omega) (by simp [total])
  simp only [spec_l7Total, spec_l7Total_l1, e, Option.bind_some]

/-- A disk that is right. -/
structure Disk.good (d : Disk) : Prop where
  b0 : 0 ≤ d.Budget
  b1 : d.Budget ≤ 20000
  w0 : 0 ≤ d.Writes
  w1 : d.Writes ≤ 1000000000
  s0 : -1 ≤ d.Stop
  s1 : d.Stop ≤ 1000000000
  len : d.Files.length ≤ 120
  path : ∀ f ∈ d.Files, pathOk f.Path
  data : ∀ f ∈ d.Files, f.Data.length ≤ 4000
  sorted : d.Files.Pairwise (fun f g => slt f.Path g.Path = true)
  room : total d.Files ≤ d.Budget

theorem DiskFault_same (d : Disk) : impl_DiskFault d = spec_DiskFault d := by
  unfold impl_DiskFault spec_DiskFault
  have : impl_DiskFault_l1 d = spec_DiskFault_l1 d := by
    unfold impl_DiskFault_l1 spec_DiskFault_l1
    refine loop_congr fun i => ?_
    unfold impl_DiskFault_l1b spec_DiskFault_l1b
    split
    · cases hx : idx d.Files i with
      | none => rfl
      | some x => simp only [Option.bind_some, PathFault_eq]
    · rfl
  rw [this]
  rfl

theorem sorted_of {xs : List File} (h : ∀ i, (hi : i + 1 < xs.length) → slt xs[i].Path xs[i + 1].Path = true) : xs.Pairwise (fun f g => slt f.Path g.Path = true) := by
  induction xs with
  | nil => exact .nil
  | cons x xs ih =>
    have h' : ∀ i, (hi : i + 1 < xs.length) → slt xs[i].Path xs[i + 1].Path = true := fun i hi => h (i + 1) (by simp; omega)
    have ih' := ih h'
    refine .cons ?_ ih'
    cases xs with
    | nil => simp
    | cons y ys =>
      have hxy : slt x.Path y.Path = true := by simpa using h 0 (by simp)
      intro z hz
      rcases List.mem_cons.1 hz with rfl | hz
      · exact hxy
      · exact slt_trans hxy ((List.pairwise_cons.1 ih').1 z hz)

theorem DiskFault_spec (d : Disk) (h : d.Files.length ≤ 1048576) : ∃ c, spec_DiskFault d = some c ∧ (c = 0 → d.good) := by
  unfold spec_DiskFault
  simp only [in_eq, Option.bind_some]
  by_cases hB : 0 ≤ d.Budget ∧ d.Budget ≤ 20000
  · by_cases hW : 0 ≤ d.Writes ∧ d.Writes ≤ 1000000000
    · by_cases hS : -1 ≤ d.Stop ∧ d.Stop ≤ 1000000000
      · simp [hB.1, hB.2, hW.1, hW.2, hS.1, hS.2]
        by_cases hl : 120 < d.Files.length
        · rw [if_pos (by omega)]
          exact ⟨2, rfl, by simp⟩
        · rw [if_neg (by omega)]
          obtain ⟨t, e, ht⟩ := loop_up (b := spec_DiskFault_l1b d) (fun i s => s = (i : Int) ∧ (∀ j, (hj : j < d.Files.length) → j < i → pathOk d.Files[j].Path ∧ d.Files[j].Data.length ≤ 4000) ∧ ∀ j, (hj : j + 1 < d.Files.length) → j + 1 < i → slt d.Files[j].Path d.Files[j + 1].Path = true) d.Files.length
            (fun t => match t with | .ret r => r ≠ 0 | .nxt _ => (∀ f ∈ d.Files, pathOk f.Path ∧ f.Data.length ≤ 4000) ∧ d.Files.Pairwise (fun f g => slt f.Path g.Path = true)) (by
            rintro i s hi ⟨rfl, h1, h2⟩
            unfold spec_DiskFault_l1b
            rw [if_pos (by simp; omega)]
            obtain ⟨r, hr, hr2⟩ := PathFault_some d.Files[i].Path
            simp only [idx_nat hi, Option.bind_some, hr]
            by_cases hr0 : r = 0
            · subst hr0
              rw [if_neg (by simp)]
              have key : ∃ q, (if decide ((i : Int) > 0) then (idx d.Files (w64 ((i : Int) - 1))).bind fun x39 => some (slt d.Files[i].Path x39.Path || seq d.Files[i].Path x39.Path) else some false) = some q ∧ (q = false → ∀ j, (hj : j + 1 < d.Files.length) → j + 1 < i + 1 → slt d.Files[j].Path d.Files[j + 1].Path = true) := by
                by_cases hp : i = 0
                · subst hp
                  exact ⟨false, by simp, fun _ j hj hji => by omega⟩
                · rw [if_pos (by simp; omega), w64_of (by omega) (by omega), show ((i : Int) - 1) = ((i - 1 : Nat) : Int) by omega, idx_nat (show i - 1 < d.Files.length by omega)]
                  refine ⟨_, rfl, fun hq j hj hji => ?_⟩
                  rcases Nat.lt_or_ge (j + 1) i with hlt | hge
                  · exact h2 j hj hlt
                  · have hj1 : j + 1 = i := by omega
                    subst hj1
                    simp only [Bool.or_eq_false_iff] at hq
                    have hq1 := hq.1
                    have hq2 : d.Files[j + 1].Path ≠ d.Files[j].Path := fun e => by
                      have := hq.2
                      simp only [Nat.add_sub_cancel] at this
                      rw [e] at this
                      simp at this
                    simp only [Nat.add_sub_cancel] at hq1
                    exact slt_tri hq1 hq2
              obtain ⟨q, hq, hq2⟩ := key
              rw [hq]
              simp only [Option.bind_some]
              cases q with
              | true => exact .inr ⟨_, rfl, by simp⟩
              | false =>
                by_cases hd : (d.Files[i].Data.length : Int) > 4000
                · exact .inr ⟨.ret 2, by rw [if_neg (by simp), if_pos (by simpa using hd)], by simp⟩
                · refine .inl ⟨((i + 1 : Nat) : Int), ?_, rfl, fun j hj hji => ?_, hq2 rfl⟩
                  · rw [if_neg (by simp), if_neg (by simpa using hd), w64_nat (by omega)]
                  · rcases Nat.lt_or_ge j i with h' | h'
                    · exact h1 j hj h'
                    · have : j = i := by omega
                      subst this
                      exact ⟨hr2.1 rfl, by omega⟩
            · rw [if_pos (by simpa using hr0)]
              exact .inr ⟨_, rfl, hr0⟩) (by
            rintro s ⟨rfl, h1, h2⟩
            unfold spec_DiskFault_l1b
            rw [if_neg (by simp)]
            refine ⟨_, rfl, fun f hf => ?_, sorted_of (fun i hi => h2 i hi hi)⟩
            obtain ⟨j, hj, rfl⟩ := List.getElem_of_mem hf
            exact h1 j hj hj) d.Files.length 0 0 (by omega) ⟨rfl, fun j _ h => by omega, fun j _ h => by omega⟩
          simp only [spec_DiskFault_l1, e, Option.bind_some]
          cases t with
          | ret r => exact ⟨r, rfl, fun h => absurd h ht⟩
          | nxt u =>
            simp only [Fl.go]
            rw [l7Total_eq d h (fun f hf => by have := (ht.1 f hf).2; omega)]
            simp only [Option.bind_some]
            by_cases hr : d.Budget < total d.Files
            · rw [if_pos hr]
              exact ⟨8, rfl, by simp⟩
            · rw [if_neg hr]
              exact ⟨0, rfl, fun _ => ⟨hB.1, hB.2, hW.1, hW.2, hS.1, hS.2, by omega, fun f hf => (ht.1 f hf).1, fun f hf => (ht.1 f hf).2, ht.2, by omega⟩⟩
      · refine ⟨3, ?_, by simp⟩
        simp [hB.1, hB.2, hW.1, hW.2]
        intro a b
        exact absurd ⟨a, b⟩ hS
    · refine ⟨3, ?_, by simp⟩
      simp [hB.1, hB.2]
      rw [if_pos (by omega)]
      rfl
  · refine ⟨3, ?_, by simp⟩
    rw [if_pos (by simp; omega)]
    rfl

/-! ### Where a file stands -/
theorem cmp_less : ∀ (a b : List UInt8), (Lib.compareBytes a b < 0 ↔ Op.bytesLess a b = true) ∧ (Lib.compareBytes a b = 0 ↔ a = b)
  | [], [] => by simp [Lib.compareBytes, Op.bytesLess]
  | [], _ :: _ => by simp [Lib.compareBytes, Op.bytesLess]
  | _ :: _, [] => by simp [Lib.compareBytes, Op.bytesLess]
  | x :: a, y :: b => by
    obtain ⟨ih1, ih2⟩ := cmp_less a b
    simp only [Lib.compareBytes, Op.bytesLess]
    by_cases h1 : x < y
    · simp [h1]
      intro e; subst e; exact absurd h1 (by simp [UInt8.lt_irrefl])
    · by_cases h2 : y < x
      · simp [h1, h2]
        have hne : x ≠ y := fun e => by subst e; exact absurd h2 (by simp [UInt8.lt_irrefl])
        simp [hne]
      · have e : x = y := by
          rw [UInt8.lt_iff_toNat_lt] at h1 h2
          exact UInt8.toNat_inj.1 (by omega)
        subst e
        simp [UInt8.lt_irrefl, ih1, ih2]

theorem cmpB_lt (a b : ByteArray) : cmpB a b < 0 ↔ slt a b = true := by
  unfold cmpB slt
  rw [ByteArray.toList_eq, ByteArray.toList_eq]
  exact (cmp_less _ _).1

theorem cmpB_eq (a b : ByteArray) : cmpB a b = 0 ↔ a = b := by
  unfold cmpB
  rw [(cmp_less _ _).2, ← ByteArray.toList_eq, ← ByteArray.toList_eq]
  exact ⟨toList_inj, fun e => by rw [e]⟩

theorem half_eq {i j : Int} (h0 : 0 ≤ i) (h1 : i ≤ j) (h2 : j ≤ 4611686018427387903) : w64 ((IntKind.u64.wrap (w64 (i + j))).fdiv (2 ^ (min (1 : Int).toNat 64))) = (i + j) / 2 := by
  rw [w64_of (x := i + j) (by omega) (by omega)]
  have e1 : IntKind.u64.wrap (i + j) = i + j := by
    simp only [IntKind.wrap, IntKind.signed, IntKind.bits]
    simp
    omega
  rw [e1]
  have e2 : ((2 : Int) ^ (min (1 : Int).toNat 64)) = 2 := by decide
  rw [e2, Int.fdiv_eq_ediv_of_nonneg _ (by omega)]
  exact w64_of (by omega) (by omega)

theorem place_1_eq (f : File) (p : ByteArray) : impl_Disk_place_1 f p = some (cmpB f.Path p) := rfl

theorem place_some (fs : List File) (p : ByteArray) (h : fs.length ≤ 1048576) :
    ∃ (k : Nat) (b : Bool), slices_BinarySearchFunc_LimplFile_impl_Disk_place_1 fs p = some ((k : Int), b) ∧ k ≤ fs.length ∧ (b = true → ∃ hk : k < fs.length, fs[k].Path = p) ∧
      (fs.Pairwise (fun f g => slt f.Path g.Path = true) → (∀ i, (hi : i < fs.length) → i < k → slt fs[i].Path p = true) ∧ (∀ i, (hi : i < fs.length) → k ≤ i → slt fs[i].Path p = false) ∧ (b = false → ∀ f ∈ fs, f.Path ≠ p)) := by
  obtain ⟨t, e, k, rfl, hk, hs⟩ := loop_meas (b := slices_BinarySearchFunc_LimplFile_impl_Disk_place_1_l1b fs p)
    (fun s => ∃ i j : Nat, s = ((i : Int), (j : Int)) ∧ i ≤ j ∧ j ≤ fs.length ∧ (fs.Pairwise (fun f g => slt f.Path g.Path = true) → (∀ q, (hq : q < fs.length) → q < i → slt fs[q].Path p = true) ∧ (∀ q, (hq : q < fs.length) → j ≤ q → slt fs[q].Path p = false)))
    (fun s => (s.2 - s.1).toNat)
    (fun t => ∃ k : Nat, t = (k : Int) ∧ k ≤ fs.length ∧ (fs.Pairwise (fun f g => slt f.Path g.Path = true) → (∀ q, (hq : q < fs.length) → q < k → slt fs[q].Path p = true) ∧ (∀ q, (hq : q < fs.length) → k ≤ q → slt fs[q].Path p = false))) (by
    rintro s ⟨i, j, rfl, hij, hj, hP⟩
    unfold slices_BinarySearchFunc_LimplFile_impl_Disk_place_1_l1b
    by_cases hlt : i < j
    · left
      rw [if_pos (by simp; omega)]
      simp only
      rw [half_eq (by omega) (by omega) (by omega)]
      have hm : (((i : Int) + (j : Int)) / 2) = (((i + j) / 2 : Nat) : Int) := by omega
      rw [hm]
      have hmj : (i + j) / 2 < j := by omega
      have him : i ≤ (i + j) / 2 := by omega
      generalize (i + j) / 2 = m at *
      have hmn : m < fs.length := by omega
      simp only [idx_nat hmn, Option.bind_some, place_1_eq]
      by_cases hc : cmpB fs[m].Path p < 0
      · rw [if_pos (by simpa using hc), w64_nat (by omega)]
        refine ⟨_, rfl, ⟨m + 1, j, rfl, by omega, hj, fun hso => ?_⟩, by simp; omega⟩
        obtain ⟨g1, g2⟩ := hP hso
        refine ⟨fun q hq hqm => ?_, g2⟩
        have hl := (cmpB_lt _ _).1 hc
        rcases Nat.lt_or_ge q m with h' | h'
        · exact slt_trans (List.pairwise_iff_getElem.1 hso q m hq hmn h') hl
        · have : q = m := by omega
          subst this; exact hl
      · rw [if_neg (by simpa using hc)]
        refine ⟨_, rfl, ⟨i, m, rfl, by omega, by omega, fun hso => ?_⟩, by simp; omega⟩
        obtain ⟨g1, g2⟩ := hP hso
        refine ⟨g1, fun q hq hmq => ?_⟩
        have hl : slt fs[m].Path p = false := by
          cases h' : slt fs[m].Path p with
          | false => rfl
          | true => exact absurd ((cmpB_lt _ _).2 h') hc
        rcases Nat.lt_or_ge m q with h' | h'
        · cases hq2 : slt fs[q].Path p with
          | false => rfl
          | true =>
            have := slt_trans (List.pairwise_iff_getElem.1 hso m q hmn hq h') hq2
            rw [hl] at this; cases this
        · have : q = m := by omega
          subst this; exact hl
    · right
      rw [if_neg (by simp; omega)]
      have : i = j := by omega
      subst this
      exact ⟨_, rfl, i, rfl, by omega, hP⟩) fs.length (0, (fs.length : Int)) (by simp) ⟨0, fs.length, rfl, by omega, by omega, fun _ => ⟨fun q _ h => by omega, fun q hq h => by omega⟩⟩
  unfold slices_BinarySearchFunc_LimplFile_impl_Disk_place_1
  rw [show slices_BinarySearchFunc_LimplFile_impl_Disk_place_1_l1 fs p (0, (fs.length : Int)) = some (k : Int) from e]
  simp only [Option.bind_some]
  by_cases hkn : k < fs.length
  · rw [if_pos (by simpa using hkn)]
    simp only [idx_nat hkn, Option.bind_some, place_1_eq]
    refine ⟨k, _, rfl, hk, fun hb => ⟨hkn, (cmpB_eq _ _).1 (by simpa using hb)⟩, fun hso => ⟨(hs hso).1, (hs hso).2, fun hb f hf hfp => ?_⟩⟩
    have hne : cmpB fs[k].Path p ≠ 0 := by simpa using hb
    obtain ⟨q, hq, rfl⟩ := List.getElem_of_mem hf
    rcases Nat.lt_trichotomy q k with h' | h' | h'
    · have := (hs hso).1 q hq h'
      rw [hfp, slt_irrefl] at this; cases this
    · subst h'; exact hne ((cmpB_eq _ _).2 hfp)
    · have h1 := List.pairwise_iff_getElem.1 hso k q hkn hq h'
      have h2 := (hs hso).2 k hkn (Nat.le_refl _)
      rw [hfp] at h1
      rw [h1] at h2; cases h2
  · rw [if_neg (by simpa using hkn)]
    refine ⟨k, false, rfl, hk, (fun hb => by cases hb), fun hso => ⟨(hs hso).1, (hs hso).2, fun _ f hf hfp => ?_⟩⟩
    obtain ⟨q, hq, rfl⟩ := List.getElem_of_mem hf
    have := (hs hso).1 q hq (by omega)
    rw [hfp, slt_irrefl] at this; cases this

/-- What the reference finds. -/
theorem l7Find_some (d : Disk) (p : ByteArray) (h : d.Files.length ≤ 1048576) :
    (∃ k : Nat, ∃ hk : k < d.Files.length, spec_l7Find d p = some (k : Int) ∧ d.Files[k].Path = p) ∨ (spec_l7Find d p = some (-1) ∧ ∀ f ∈ d.Files, f.Path ≠ p) := by
  obtain ⟨t, e, ht⟩ := loop_up (b := spec_l7Find_l1b d p) (fun i s => s = (i : Int) ∧ ∀ q, (hq : q < d.Files.length) → q < i → d.Files[q].Path ≠ p) d.Files.length
    (fun t => match t with | .ret r => ∃ k : Nat, ∃ hk : k < d.Files.length, r = (k : Int) ∧ d.Files[k].Path = p | .nxt _ => ∀ f ∈ d.Files, f.Path ≠ p) (by
    rintro i s hi ⟨rfl, hq⟩
    unfold spec_l7Find_l1b
    rw [if_pos (by simp; omega)]
    simp only [idx_nat hi, Option.bind_some]
    by_cases hp : d.Files[i].Path = p
    · rw [if_pos (seq_iff.2 hp)]
      exact .inr ⟨_, rfl, i, hi, rfl, hp⟩
    · rw [if_neg (fun h' => hp (seq_iff.1 h')), w64_nat (by omega)]
      refine .inl ⟨_, rfl, rfl, fun q hq' hqi => ?_⟩
      rcases Nat.lt_or_ge q i with h' | h'
      · exact hq q hq' h'
      · have : q = i := by omega
        subst this; exact hp) (by
    rintro s ⟨rfl, hq⟩
    unfold spec_l7Find_l1b
    rw [if_neg (by simp)]
    refine ⟨_, rfl, fun f hf => ?_⟩
    obtain ⟨q, hq', rfl⟩ := List.getElem_of_mem hf
    exact hq q hq' hq') d.Files.length 0 0 (by omega) ⟨rfl, fun q _ h => by omega⟩
  unfold spec_l7Find
  rw [show spec_l7Find_l1 d p 0 = some t from e]
  cases t with
  | ret r =>
    obtain ⟨k, hk, rfl, hp⟩ := ht
    exact .inl ⟨k, hk, rfl, hp⟩
  | nxt _ => exact .inr ⟨rfl, ht⟩

theorem sorted_inj {fs : List File} (hs : fs.Pairwise (fun f g => slt f.Path g.Path = true)) {i j : Nat} (hi : i < fs.length) (hj : j < fs.length) (h : fs[i].Path = fs[j].Path) : i = j := by
  rcases Nat.lt_trichotomy i j with h' | h' | h'
  · have := List.pairwise_iff_getElem.1 hs i j hi hj h'
    rw [h, slt_irrefl] at this; cases this
  · exact h'
  · have := List.pairwise_iff_getElem.1 hs j i hj hi h'
    rw [h, slt_irrefl] at this; cases this

/-- Both find the same on a disk that is right. -/
theorem find_both (d : Disk) (p : ByteArray) (hg : d.good) :
    (∃ k : Nat, ∃ hk : k < d.Files.length, spec_l7Find d p = some (k : Int) ∧ slices_BinarySearchFunc_LimplFile_impl_Disk_place_1 d.Files p = some ((k : Int), true) ∧ d.Files[k].Path = p) ∨
      (spec_l7Find d p = some (-1) ∧ (∀ f ∈ d.Files, f.Path ≠ p) ∧ ∃ k : Nat, slices_BinarySearchFunc_LimplFile_impl_Disk_place_1 d.Files p = some ((k : Int), false) ∧ k ≤ d.Files.length ∧ (∀ i, (hi : i < d.Files.length) → i < k → slt d.Files[i].Path p = true) ∧ (∀ i, (hi : i < d.Files.length) → k ≤ i → slt d.Files[i].Path p = false)) := by
  have hl : d.Files.length ≤ 1048576 := by have := hg.len; omega
  obtain ⟨k, b, e, hk, h1, h2⟩ := place_some d.Files p hl
  obtain ⟨g1, g2, g3⟩ := h2 hg.sorted
  rcases l7Find_some d p hl with ⟨q, hq, e2, hp⟩ | ⟨e2, hp⟩
  · left
    cases b with
    | false => exact absurd hp (g3 rfl _ (List.getElem_mem hq))
    | true =>
      obtain ⟨hk', hp'⟩ := h1 rfl
      have : q = k := sorted_inj hg.sorted hq hk' (by rw [hp, hp'])
      subst this
      exact ⟨q, hq, e2, e, hp⟩
  · right
    cases b with
    | true =>
      obtain ⟨hk', hp'⟩ := h1 rfl
      exact absurd hp' (hp _ (List.getElem_mem hk'))
    | false => exact ⟨e2, hp, k, e, hk, g1, g2⟩

theorem data_both (d : Disk) (p : ByteArray) (hg : d.good) :
    (∃ k : Nat, ∃ hk : k < d.Files.length, spec_l7Find d p = some (k : Int) ∧ impl_Disk_data d p = some (d.Files[k].Data, true) ∧ d.Files[k].Path = p) ∨
      (spec_l7Find d p = some (-1) ∧ impl_Disk_data d p = some ([], false) ∧ ∀ f ∈ d.Files, f.Path ≠ p) := by
  rcases find_both d p hg with ⟨k, hk, e1, e2, hp⟩ | ⟨e1, hp, k, e2, _⟩
  · left
    refine ⟨k, hk, e1, ?_, hp⟩
    unfold impl_Disk_data impl_Disk_place
    rw [e2]
    simp only [Option.bind_some, Bool.not_true, Bool.false_eq_true, if_false, idx_nat hk]
  · right
    refine ⟨e1, ?_, hp⟩
    unfold impl_Disk_data impl_Disk_place
    rw [e2]
    rfl

/-! ### Numbers in decimal -/
theorem list_rev {P : List Int → Prop} (h0 : P []) (h1 : ∀ l c, P l → P (l ++ [c])) (l : List Int) : P l := by
  have key : ∀ m : List Int, P m.reverse := by
    intro m
    induction m with
    | nil => exact h0
    | cons c m ih => rw [List.reverse_cons]; exact h1 _ c ih
  have := key l.reverse
  rwa [List.reverse_reverse] at this

theorem bl_b2s {l : List Int} (h : ∀ c ∈ l, 0 ≤ c ∧ c ≤ 255) : bl (b2s l) = l := by
  refine (list_rev (P := fun l => (∀ c ∈ l, 0 ≤ c ∧ c ≤ 255) → bl (b2s l) = l) ?_ ?_ l) h
  · intro _; exact bl_bs []
  · intro l c ih h
    have e : b2s (l ++ [c]) = b2s l ++ b2s [c] := by
      unfold b2s
      rw [List.foldl_append]
      generalize List.foldl (fun r n => ByteArray.push r (UInt8.ofNat n.toNat)) ByteArray.empty l = x
      simp only [List.foldl_cons, List.foldl_nil]
      generalize UInt8.ofNat c.toNat = u
      apply toList_inj
      rw [ByteArray.toList_eq, ByteArray.toList_eq]
      simp
    rw [e, bl_append, ih (fun x hx => h x (by simp [hx])), bl_b2s1 (h c (by simp)).1 (h c (by simp)).2]

theorem find_of {fs : List File} {p : ByteArray} {k : Nat} (hs : fs.Pairwise (fun f g => slt f.Path g.Path = true)) (hk : k < fs.length) (hp : fs[k].Path = p) : fs.find? (fun f => decide (f.Path = p)) = some fs[k] := by
  rw [List.find?_eq_some_iff_getElem]
  refine ⟨by simp [hp], k, hk, rfl, fun j hj => ?_⟩
  simp only [Bool.not_eq_eq_eq_not, Bool.not_true, decide_eq_false_iff_not]
  intro e
  have := sorted_inj hs (by omega) hk (e.trans hp.symm)
  omega

theorem find_none {fs : List File} {p : ByteArray} (h : ∀ f ∈ fs, f.Path ≠ p) : fs.find? (fun f => decide (f.Path = p)) = none := by
  rw [List.find?_eq_none]
  intro f hf
  simpa using h f hf

/-! ### Names, versions, terms -/
def letB (c : Int) : Bool := decide (97 ≤ c) && decide (c ≤ 122)

def digitB (c : Int) : Bool := decide (48 ≤ c) && decide (c ≤ 57)

def namB (c : Int) : Bool := letB c || (digitB c || c == 95)

theorem l1Letter_eq (c : Int) : spec_l1Letter c = some (letB c) := by
  unfold spec_l1Letter letB
  by_cases h : c ≥ 97 <;> simp [h]

theorem l1Digit_eq (c : Int) : spec_l1Digit c = some (digitB c) := by
  unfold spec_l1Digit digitB
  by_cases h : c ≥ 48 <;> simp [h]

theorem l1Name_eq (c : Int) : spec_l1Name c = some (namB c) := by
  unfold spec_l1Name namB
  simp only [l1Letter_eq, l1Digit_eq, Option.bind_some]
  cases letB c <;> cases digitB c <;> simp

theorem isNameByte_eq (c : Int) : impl_isNameByte c = some (namB c) := by
  unfold impl_isNameByte namB letB digitB
  by_cases h1 : c ≥ 97 <;> by_cases h2 : c ≤ 122 <;> by_cases h3 : c ≥ 48 <;> by_cases h4 : c ≤ 57 <;> simp [h1, h2, h3, h4]

def nameScan (s : ByteArray) : Int := (scanL (fun _ c => if namB c then none else some (5 : Int)) 0 (bl s)).getD 0

/-- What is wrong with a name. -/
def NF (s : ByteArray) : Int := if s.size < 1 then 5 else if s.size > 12 then 5 else if letB ((bl s).headD 0) then nameScan s else 5

theorem bl_head {s : ByteArray} (h : 1 ≤ s.size) : bidx s 0 = some ((bl s).headD 0) := by
  have h' : 0 < (bl s).length := by rw [bl_length]; exact h
  have e := bidx_nat (s := s) (i := 0) h'
  rw [show ((0 : Nat) : Int) = 0 from rfl] at e
  rw [e]
  have : (bl s)[0]? = some ((bl s).headD 0) := by
    cases hb : bl s with
    | nil => rw [hb] at h'; simp at h'
    | cons c l => rfl
  rw [List.getElem?_eq_getElem h'] at this
  exact this

theorem spec_nameLoop (s : ByteArray) (h : s.size ≤ 12) : spec_NameFault_l1 s 0 = some (frs (scanL (fun _ c => if namB c then none else some (5 : Int)) 0 (bl s))) := by
  unfold spec_NameFault_l1
  refine loop_scan (bl s) _ (fun i hi => ?_) ?_
  · have hs : i < s.size := by rw [← bl_length]; exact hi
    unfold spec_NameFault_l1b
    rw [if_pos (by simp; omega), bidx_nat hi]
    simp only [Option.bind_some, l1Name_eq]
    rw [w64_nat (by omega)]
    cases namB (bl s)[i] <;> rfl
  · unfold spec_NameFault_l1b
    rw [if_neg (by rw [bl_length]; simp)]

theorem impl_nameLoop (s : ByteArray) (h : s.size ≤ 12) : impl_NameFault_l1 s 0 = some (frs (scanL (fun _ c => if namB c then none else some (5 : Int)) 0 (bl s))) := by
  unfold impl_NameFault_l1
  refine loop_scan (bl s) _ (fun i hi => ?_) ?_
  · have hs : i < s.size := by rw [← bl_length]; exact hi
    unfold impl_NameFault_l1b
    rw [if_pos (by simp; omega), bidx_nat hi]
    simp only [Option.bind_some, isNameByte_eq]
    rw [w64_nat (by omega)]
    cases namB (bl s)[i] <;> rfl
  · unfold impl_NameFault_l1b
    rw [if_neg (by rw [bl_length]; simp)]

theorem NameFault_spec (s : ByteArray) : spec_NameFault s = some (NF s) := by
  unfold spec_NameFault NF
  by_cases h1 : s.size < 1
  · rw [if_pos (show decide ((s.size : Int) < 1) = true by rw [decide_eq_true_eq]; omega), if_pos h1]; rfl
  rw [if_neg (show ¬ decide ((s.size : Int) < 1) = true by rw [decide_eq_true_eq]; omega), if_neg h1]
  by_cases h2 : s.size > 12
  · rw [if_pos (show decide ((s.size : Int) > 12) = true by rw [decide_eq_true_eq]; omega), if_pos h2]; rfl
  rw [if_neg (show ¬ decide ((s.size : Int) > 12) = true by rw [decide_eq_true_eq]; omega), if_neg h2, bl_head (by omega), spec_nameLoop s (by omega)]
  simp only [Option.bind_some, l1Letter_eq]
  cases h3 : letB ((bl s).headD 0)
  · rfl
  · unfold nameScan
    cases scanL (fun _ c => if namB c then none else some (5 : Int)) 0 (bl s) <;> rfl

theorem headTest (c : Int) : (if decide (c < 97) = true then some true else some (decide (c > 122))) = some (!(letB c)) := by
  unfold letB
  by_cases h3 : c < 97
  · rw [if_pos (by rw [decide_eq_true_eq]; exact h3)]
    have : decide (97 ≤ c) = false := by rw [decide_eq_false_iff_not]; omega
    rw [this]; rfl
  · rw [if_neg (by rw [decide_eq_true_eq]; exact h3)]
    have : decide (97 ≤ c) = true := by rw [decide_eq_true_eq]; omega
    rw [this]
    congr 1
    rw [Bool.true_and, Bool.eq_iff_iff]
    simp

theorem NameFault_impl (s : ByteArray) : impl_NameFault s = some (NF s) := by
  unfold impl_NameFault NF
  by_cases h1 : s.size < 1
  · rw [if_pos (show decide ((s.size : Int) < 1) = true by rw [decide_eq_true_eq]; omega), if_pos h1]; rfl
  rw [if_neg (show ¬ decide ((s.size : Int) < 1) = true by rw [decide_eq_true_eq]; omega), if_neg h1]
  by_cases h2 : s.size > 12
  · rw [if_pos (show decide ((s.size : Int) > 12) = true by rw [decide_eq_true_eq]; omega), if_pos h2]; rfl
  rw [if_neg (show ¬ decide ((s.size : Int) > 12) = true by rw [decide_eq_true_eq]; omega), if_neg h2, bl_head (by omega), impl_nameLoop s (by omega)]
  simp only [Option.bind_some, headTest]
  cases h3 : letB ((bl s).headD 0)
  · rfl
  · unfold nameScan
    cases scanL (fun _ c => if namB c then none else some (5 : Int)) 0 (bl s) <;> rfl

/-- What is wrong with a version. -/
def VF (v : Version) : Int := if inB v.A 0 999 && inB v.B 0 999 && inB v.C 0 999 then 0 else 3

theorem VersionFault_spec (v : Version) : spec_VersionFault v = some (VF v) := by
  unfold spec_VersionFault VF
  simp only [l1In_eq, Option.bind_some]
  cases inB v.A 0 999 <;> cases inB v.B 0 999 <;> cases inB v.C 0 999 <;> rfl

theorem VersionFault_impl (v : Version) : impl_VersionFault v = some (VF v) := by
  unfold impl_VersionFault VF
  simp only [within_eq, Option.bind_some]
  cases inB v.A 0 999 <;> cases inB v.B 0 999 <;> cases inB v.C 0 999 <;> rfl

def sgn (a b : Int) : Int := if a < b then -1 else if a > b then 1 else 0

theorem l1Sign_eq (a b : Int) : spec_l1Sign a b = some (sgn a b) := by
  unfold spec_l1Sign sgn
  by_cases h : a < b
  · simp [h]
  · by_cases h2 : a > b <;> simp [h, h2]

theorem cmp_eq (a b : Int) : cmp_Compare_int64 a b = some (sgn a b) := by
  unfold cmp_Compare_int64 cmp_isNaN_int64 sgn
  simp only [Option.bind_some, bne_self_eq_false, Bool.false_eq_true, if_false]
  by_cases h : a < b
  · simp [h]
  · by_cases h2 : a > b <;> simp [h, h2]

/-- Versions in order. -/
def cmpV (a b : Version) : Int := if sgn a.A b.A ≠ 0 then sgn a.A b.A else if sgn a.B b.B ≠ 0 then sgn a.B b.B else sgn a.C b.C

theorem CompareVersions_spec (a b : Version) : spec_CompareVersions a b = some (cmpV a b) := by
  unfold spec_CompareVersions cmpV
  simp only [l1Sign_eq, Option.bind_some]
  by_cases h1 : sgn a.A b.A = 0
  · by_cases h2 : sgn a.B b.B = 0 <;> simp [h1, h2]
  · simp [h1]

theorem firstOf (l : List Int) (h : l.length ≤ 10) : loop (cmp_Or_int_l1b l) 0 = some (frs (scanL (fun _ c => if c != 0 then some c else none) 0 l)) := by
  refine loop_scan l _ (fun i hi => ?_) ?_
  · unfold cmp_Or_int_l1b
    rw [if_pos (by simp; omega), idx_nat hi]
    simp only [Option.bind_some]
    rw [w64_nat (by omega)]
    cases l[i] != 0 <;> rfl
  · unfold cmp_Or_int_l1b
    rw [if_neg (by simp)]

theorem compare_impl (a b : Version) : impl_compare a b = some (cmpV a b) := by
  unfold impl_compare cmpV cmp_Or_int cmp_Or_int_l1
  simp only [cmp_eq, Option.bind_some]
  rw [firstOf _ (by simp), frs_go]
  by_cases h1 : sgn a.A b.A = 0
  · by_cases h2 : sgn a.B b.B = 0
    · by_cases h3 : sgn a.C b.C = 0 <;> simp [h1, h2, h3, scanL]
    · simp [h1, h2, scanL]
  · simp [h1, scanL]

/-- Two versions are the same. -/
def eqV (a b : Version) : Bool := a.A == b.A && (a.B == b.B && (a.C == b.C && true))

theorem cmpV_zero (a b : Version) : (cmpV a b == 0) = eqV a b := by
  unfold cmpV eqV sgn
  rw [Bool.eq_iff_iff]
  simp only [beq_iff_eq, Bool.and_eq_true, Bool.and_true]
  constructor
  · intro h
    split at h <;> omega
  · intro ⟨h1, h2, h3⟩
    split <;> omega

def topV : Version := { A := 1000, B := 0, C := 0 }

/-- What is wrong with a term. -/
def TF (t : Term) : Int := if NF t.Name ≠ 0 then NF t.Name else if VF t.Low ≠ 0 then VF t.Low else
  if eqV t.High topV = false ∧ VF t.High ≠ 0 then 3 else if cmpV t.Low t.High ≥ 0 then 1 else 0

theorem TermFault_spec (t : Term) : spec_TermFault t = some (TF t) := by
  unfold spec_TermFault TF spec_l1Top
  simp only [NameFault_spec, VersionFault_spec, CompareVersions_spec, Option.bind_some]
  show (if (NF t.Name != 0) = true then some (NF t.Name) else if (VF t.Low != 0) = true then some (VF t.Low) else (if (!(eqV t.High topV)) = true then some (VF t.High != 0) else some false).bind fun v => if v = true then some 3 else if decide (cmpV t.Low t.High ≥ 0) = true then some 1 else some 0) = _
  generalize NF t.Name = a
  generalize VF t.Low = b
  generalize eqV t.High topV = c
  generalize VF t.High = d
  generalize cmpV t.Low t.High = e
  by_cases h1 : a = 0
  · by_cases h2 : b = 0
    · by_cases h4 : d = 0 <;> by_cases h5 : e ≥ 0 <;> cases c <;> simp [h1, h2, h4, h5]
    · simp [h1, h2]
  · simp [h1]

theorem TermFault_impl (t : Term) : impl_TermFault t = some (TF t) := by
  unfold impl_TermFault TF impl_top
  simp only [NameFault_impl, VersionFault_impl, compare_impl, Option.bind_some]
  show (if (NF t.Name != 0) = true then some (NF t.Name) else if (VF t.Low != 0) = true then some (VF t.Low) else (if (!(eqV t.High topV)) = true then some (VF t.High != 0) else some false).bind fun v => if v = true then some 3 else if decide (cmpV t.Low t.High ≥ 0) = true then some 1 else some 0) = _
  generalize NF t.Name = a
  generalize VF t.Low = b
  generalize eqV t.High topV = c
  generalize VF t.High = d
  generalize cmpV t.Low t.High = e
  by_cases h1 : a = 0
  · by_cases h2 : b = 0
    · by_cases h4 : d = 0 <;> by_cases h5 : e ≥ 0 <;> cases c <;> simp [h1, h2, h4, h5]
    · simp [h1, h2]
  · simp [h1]

/-- The first fault of terms. -/
def tsF (l : List Term) : Int := (scanL (fun _ t => if TF t != 0 then some (TF t) else none) 0 l).getD 0

theorem l2Terms_spec (l : List Term) (h : l.length ≤ 1048576) : spec_l2Terms l = some (tsF l) := by
  have key := loop_scan l (fun _ t => if TF t != 0 then some (TF t) else none) (b := spec_l2Terms_l1b l) (by
    intro i hi
    unfold spec_l2Terms_l1b
    rw [if_pos (by simp; omega), idx_nat hi]
    simp only [Option.bind_some, TermFault_spec]
    rw [w64_nat (by omega)]
    cases TF l[i] != 0 <;> rfl) (by
    unfold spec_l2Terms_l1b
    rw [if_neg (by simp)])
  unfold spec_l2Terms spec_l2Terms_l1 tsF
  rw [key, frs_go]
  cases scanL (fun _ t => if TF t != 0 then some (TF t) else none) 0 l <;> rfl

theorem termsFault_impl (l : List Term) (h : l.length ≤ 1048576) : impl_termsFault l = some (tsF l) := by
  have key := loop_scan l (fun _ t => if TF t != 0 then some (TF t) else none) (b := impl_termsFault_l1b l) (by
    intro i hi
    unfold impl_termsFault_l1b
    rw [if_pos (by simp; omega), idx_nat hi]
    simp only [Option.bind_some, TermFault_impl]
    rw [w64_nat (by omega)]
    cases TF l[i] != 0 <;> rfl) (by
    unfold impl_termsFault_l1b
    rw [if_neg (by simp)])
  unfold impl_termsFault impl_termsFault_l1 tsF
  rw [key, frs_go]
  cases scanL (fun _ t => if TF t != 0 then some (TF t) else none) 0 l <;> rfl

/-! ### The text of a version -/
theorem decS_size {n : Nat} (h : n < 1000) : (decS n).size ≤ 3 := by
  rw [← bl_length, bl_decS]
  exact decL_le 2 n (by omega)

theorem dot_size : (bs [46]).size = 1 := rfl

/-- The text of a version. -/
def verS (v : Version) : ByteArray := decS v.A.toNat ++ bs [46] ++ decS v.B.toNat ++ bs [46] ++ decS v.C.toNat

theorem VF_zero {v : Version} (h : VF v = 0) : (0 ≤ v.A ∧ v.A ≤ 999) ∧ (0 ≤ v.B ∧ v.B ≤ 999) ∧ (0 ≤ v.C ∧ v.C ≤ 999) := by
  unfold VF inB at h
  split at h
  · rename_i hh
    simp only [Bool.and_eq_true, decide_eq_true_eq] at hh
    omega
  · cases h

theorem verS_size {v : Version} (h : VF v = 0) : (verS v).size ≤ 11 := by
  obtain ⟨h1, h2, h3⟩ := VF_zero h
  unfold verS
  simp only [ba_size, dot_size]
  have a1 := decS_size (n := v.A.toNat) (by omega)
  have a2 := decS_size (n := v.B.toNat) (by omega)
  have a3 := decS_size (n := v.C.toNat) (by omega)
  omega

theorem dec_spec {x : Int} (h : 0 ≤ x ∧ x ≤ 999) : spec_l1Decimal x = some (decS x.toNat) := by
  have := l1Decimal_eq x.toNat (by omega)
  rwa [Int.toNat_of_nonneg h.1] at this

theorem dec_impl {x : Int} (h : 0 ≤ x ∧ x ≤ 999) : impl_dec x = some (decS x.toNat) := by
  have := FormatInt_eq x.toNat (by omega)
  rw [Int.toNat_of_nonneg h.1] at this
  unfold impl_dec
  rw [this]
  rfl

theorem FormatVersion_spec {v : Version} (h : VF v = 0) : spec_FormatVersion v = some (verS v) := by
  obtain ⟨h1, h2, h3⟩ := VF_zero h
  have a1 := decS_size (n := v.A.toNat) (by omega)
  have a2 := decS_size (n := v.B.toNat) (by omega)
  have a3 := decS_size (n := v.C.toNat) (by omega)
  unfold spec_FormatVersion verS
  rw [VersionFault_spec, h]
  simp only [Option.bind_some, dec_spec h1, dec_spec h2, dec_spec h3]
  rw [if_neg (by simp)]
  rw [cat_of (by rw [dot_size]; omega)]
  simp only [Option.bind_some]
  rw [cat_of (by simp only [ba_size, dot_size]; omega)]
  simp only [Option.bind_some]
  rw [cat_of (by simp only [ba_size, dot_size]; omega)]
  simp only [Option.bind_some]
  rw [cat_of (by simp only [ba_size, dot_size]; omega)]
  rfl

theorem text_impl {v : Version} (h : VF v = 0) : impl_Version_text v = some (verS v) := by
  obtain ⟨h1, h2, h3⟩ := VF_zero h
  have a1 := decS_size (n := v.A.toNat) (by omega)
  have a2 := decS_size (n := v.B.toNat) (by omega)
  have a3 := decS_size (n := v.C.toNat) (by omega)
  unfold impl_Version_text verS
  simp only [Option.bind_some, dec_impl h1, dec_impl h2, dec_impl h3]
  rw [cat_of (by rw [dot_size]; omega)]
  simp only [Option.bind_some]
  rw [cat_of (by simp only [ba_size, dot_size]; omega)]
  simp only [Option.bind_some]
  rw [cat_of (by simp only [ba_size, dot_size]; omega)]
  simp only [Option.bind_some]
  rw [cat_of (by simp only [ba_size, dot_size]; omega)]
  rfl

theorem NF_size {s : ByteArray} (h : NF s = 0) : 1 ≤ s.size ∧ s.size ≤ 12 := by
  unfold NF at h
  split at h
  · cases h
  · split at h
    · cases h
    · omega

/-! ### Packages, catalogs, sets -/
theorem seq_comm (a b : ByteArray) : seq a b = seq b a := by
  unfold seq
  rw [Bool.eq_iff_iff]
  simp only [beq_iff_eq]
  exact eq_comm

theorem scan_none {α R : Type} (g : Nat → α → Option R) : ∀ (xs : List α) (i : Nat), scanL g i xs = none ↔ ∀ (j : Nat) (h : j < xs.length), g (i + j) xs[j] = none
  | [], i => by simp [scanL]
  | x :: xs, i => by
    simp only [scanL]
    cases h : g i x with
    | some r =>
      simp only [reduceCtorEq, false_iff]
      intro hh
      have := hh 0 (by simp)
      simp only [Nat.add_zero, List.getElem_cons_zero] at this
      rw [h] at this
      cases this
    | none =>
      show scanL g (i + 1) xs = none ↔ _
      rw [scan_none g xs (i + 1)]
      constructor
      · intro hh j hj
        cases j with
        | zero => simpa using h
        | succ j =>
          have := hh j (by simpa using hj)
          rw [show i + (j + 1) = i + 1 + j by omega]
          simpa using this
      · intro hh j hj
        have := hh (j + 1) (by simpa using hj)
        rw [show i + (j + 1) = i + 1 + j by omega] at this
        simpa using this

theorem take_sub {α : Type} {xs : List α} {i : Nat} (h : i ≤ xs.length) : lsub xs 0 (i : Int) = some (xs.take i) := by
  have := lsub_of (xs := xs) (l := 0) (h := i) (by omega) h
  rw [show ((0 : Nat) : Int) = 0 from rfl] at this
  rw [this]
  simp

theorem holds_spec (l : List ByteArray) (n : ByteArray) (h : l.length ≤ 1048576) : spec_l2Holds l n = some (l.any fun x => seq x n) := by
  have key := loop_scan l (fun _ x => if seq x n then some true else none) (b := spec_l2Holds_l1b l n) (by
    intro i hi
    unfold spec_l2Holds_l1b
    rw [if_pos (by simp; omega), idx_nat hi]
    simp only [Option.bind_some]
    rw [w64_nat (by omega)]
    cases seq l[i] n <;> rfl) (by
    unfold spec_l2Holds_l1b
    rw [if_neg (by simp)])
  unfold spec_l2Holds spec_l2Holds_l1
  rw [key, frs_go, ← scan_bool (fun x => seq x n) l 0]
  cases scanL (fun _ x => if seq x n then some true else none) 0 l <;> rfl

theorem contains_impl (l : List ByteArray) (n : ByteArray) (h : l.length ≤ 1048576) : slices_Contains_Lstring l n = some (l.any fun x => seq x n) := by
  have key := loop_scan l (fun i x => if seq x n then some (i : Int) else none) (b := slices_Index_Lstring_l1b l n) (by
    intro i hi
    unfold slices_Index_Lstring_l1b
    rw [if_pos (by simp; omega), idx_nat hi]
    simp only [Option.bind_some]
    rw [w64_nat (by omega), seq_comm n]
    cases seq l[i] n <;> rfl) (by
    unfold slices_Index_Lstring_l1b
    rw [if_neg (by simp)])
  unfold slices_Contains_Lstring slices_Index_Lstring slices_Index_Lstring_l1
  rw [key, frs_go]
  rw [← place_ge (scan_place (fun x => seq x n) l 0)]
  cases scanL (fun j x => if seq x n then some (j : Int) else none) 0 l <;> rfl

def provG (p : Pack) (i : Nat) (n : ByteArray) : Option Int := if NF n != 0 then some (NF n) else if seq n p.Name || (p.Provides.take i).any (fun x => seq x n) then some 6 else none

def needG (_ : Nat) (l : List Term) : Option Int := if (l.length : Int) == 0 then some 1 else if tsF l != 0 then some (tsF l) else none

def manyB (p : Pack) : Bool := decide ((p.Provides.length : Int) > 4) || (decide ((p.Needs.length : Int) > 4) || (decide ((p.Bars.length : Int) > 4) || p.Needs.any (fun l => decide ((l.length : Int) > 4))))

/-- What the lists of a package are worth. -/
def listsF (p : Pack) : Int := match scanL (provG p) 0 p.Provides with
  | some r => r
  | none => match scanL needG 0 p.Needs with
    | some r => r
    | none => tsF p.Bars

/-- What is wrong with a package. -/
def PF (p : Pack) : Int := if NF p.Name != 0 then NF p.Name else if VF p.Version != 0 then VF p.Version else if !(inB p.Size 1 200) then 3 else if manyB p then 2 else listsF p

theorem PackFault_lists (p : Pack) (hp : Pack.sm 1048576 p) : ((spec_PackFault_l2 p 0).bind (Fl.go some fun v60 => (spec_PackFault_l3 p 0).bind (Fl.go some fun v80 => (spec_l2Terms p.Bars).bind fun x81 => some x81))) = some (listsF p) := by
  obtain ⟨_, _, _, hpr, hne, hba⟩ := hp
  have k2 := loop_scan p.Provides (provG p) (b := spec_PackFault_l2b p) (by
    intro i hi
    unfold spec_PackFault_l2b provG
    rw [if_pos (by simp; omega), idx_nat hi]
    simp only [Option.bind_some, NameFault_spec]
    rw [take_sub (by omega)]
    simp only [Option.bind_some]
    rw [holds_spec _ _ (by simp; omega), w64_nat (by omega)]
    simp only [Option.bind_some]
    cases NF p.Provides[i] != 0 <;> cases seq p.Provides[i] p.Name <;> cases (p.Provides.take i).any (fun x => seq x p.Provides[i]) <;> rfl) (by
    unfold spec_PackFault_l2b
    rw [if_neg (by simp)])
  have k3 := loop_scan p.Needs needG (b := spec_PackFault_l3b p) (by
    intro i hi
    unfold spec_PackFault_l3b needG
    rw [if_pos (by simp; omega), idx_nat hi]
    simp only [Option.bind_some]
    rw [l2Terms_spec _ (hne.2 _ (List.getElem_mem hi)).1, w64_nat (by omega)]
    simp only [Option.bind_some]
    cases (p.Needs[i].length : Int) == 0 <;> cases tsF p.Needs[i] != 0 <;> rfl) (by
    unfold spec_PackFault_l3b
    rw [if_neg (by simp)])
  unfold spec_PackFault_l2 spec_PackFault_l3 listsF
  rw [k2, k3, l2Terms_spec _ hba.1]
  cases scanL (provG p) 0 p.Provides <;> cases scanL needG 0 p.Needs <;> rfl

theorem PackFault_listsI (p : Pack) (hp : Pack.sm 1048576 p) : ((impl_PackFault_l1 p 0).bind (Fl.go some fun v46 => (impl_PackFault_l2 p 0).bind (Fl.go some fun v62 => (impl_termsFault p.Bars).bind fun x63 => some x63))) = some (listsF p) := by
  obtain ⟨_, _, _, hpr, hne, hba⟩ := hp
  have k2 := loop_scan p.Provides (provG p) (b := impl_PackFault_l1b p) (by
    intro i hi
    unfold impl_PackFault_l1b provG
    rw [if_pos (by simp; omega), idx_nat hi]
    simp only [Option.bind_some, NameFault_impl]
    rw [take_sub (by omega)]
    simp only [Option.bind_some]
    rw [contains_impl _ _ (by simp; omega), w64_nat (by omega)]
    simp only [Option.bind_some]
    cases NF p.Provides[i] != 0 <;> cases seq p.Provides[i] p.Name <;> cases (p.Provides.take i).any (fun x => seq x p.Provides[i]) <;> rfl) (by
    unfold impl_PackFault_l1b
    rw [if_neg (by simp)])
  have k3 := loop_scan p.Needs needG (b := impl_PackFault_l2b p) (by
    intro i hi
    unfold impl_PackFault_l2b needG
    rw [if_pos (by simp; omega), idx_nat hi]
    simp only [Option.bind_some]
    rw [termsFault_impl _ (hne.2 _ (List.getElem_mem hi)).1, w64_nat (by omega)]
    simp only [Option.bind_some]
    cases (p.Needs[i].length : Int) == 0 <;> cases tsF p.Needs[i] != 0 <;> rfl) (by
    unfold impl_PackFault_l2b
    rw [if_neg (by simp)])
  unfold impl_PackFault_l1 impl_PackFault_l2 listsF
  rw [k2, k3, termsFault_impl _ hba.1]
  cases scanL (provG p) 0 p.Provides <;> cases scanL needG 0 p.Needs <;> rfl

theorem scan_const {α R : Type} (p : α → Bool) (r : R) : ∀ (xs : List α) (i : Nat), scanL (fun _ x => if p x then some r else none) i xs = if xs.any p then some r else none
  | [], i => rfl
  | x :: xs, i => by
    simp only [scanL]
    cases h : p x
    · simp only [Bool.false_eq_true, if_false, List.any_cons, h, Bool.false_or]
      exact scan_const p r xs (i + 1)
    · simp [h]

theorem PackFault_spec (p : Pack) (hp : Pack.sm 1048576 p) : spec_PackFault p = some (PF p) := by
  have hl := PackFault_lists p hp
  obtain ⟨_, _, _, hpr, hne, hba⟩ := hp
  have k1 := loop_scan p.Needs (fun _ l => if decide ((l.length : Int) > 4) then some (2 : Int) else none) (b := spec_PackFault_l1b p) (by
    intro i hi
    unfold spec_PackFault_l1b
    rw [if_pos (by simp; omega), idx_nat hi]
    simp only [Option.bind_some]
    rw [w64_nat (by omega)]
    cases decide ((p.Needs[i].length : Int) > 4) <;> rfl) (by
    unfold spec_PackFault_l1b
    rw [if_neg (by simp)])
  rw [scan_const] at k1
  unfold spec_PackFault PF manyB
  simp only [NameFault_spec, VersionFault_spec, l1In_eq, Option.bind_some]
  rw [hl]
  unfold spec_PackFault_l1
  rw [k1]
  cases NF p.Name != 0 <;> cases VF p.Version != 0 <;> cases inB p.Size 1 200 <;> cases decide ((p.Provides.length : Int) > 4) <;> cases decide ((p.Needs.length : Int) > 4) <;> cases decide ((p.Bars.length : Int) > 4) <;> cases p.Needs.any (fun l => decide ((l.length : Int) > 4)) <;> rfl

theorem firstOf2 (l : List Int) (h : l.length ≤ 10) : loop (impl_firstCode_l1b l) 0 = some (frs (scanL (fun _ c => if c != 0 then some c else none) 0 l)) := by
  refine loop_scan l _ (fun i hi => ?_) ?_
  · unfold impl_firstCode_l1b
    rw [if_pos (by simp; omega), idx_nat hi]
    simp only [Option.bind_some]
    rw [w64_nat (by omega)]
    cases l[i] != 0 <;> rfl
  · unfold impl_firstCode_l1b
    rw [if_neg (by simp)]

theorem PackFault_impl (p : Pack) (hp : Pack.sm 1048576 p) : impl_PackFault p = some (PF p) := by
  have hl := PackFault_listsI p hp
  obtain ⟨_, _, _, hpr, hne, hba⟩ := hp
  have k1 := loop_scan p.Needs (fun i l => if decide ((l.length : Int) > 4) then some (i : Int) else none) (b := slices_IndexFunc_LLimplTerm_impl_PackFault_1_l1b p.Needs) (by
    intro i hi
    unfold slices_IndexFunc_LLimplTerm_impl_PackFault_1_l1b impl_PackFault_1
    rw [if_pos (by simp; omega), idx_nat hi]
    simp only [Option.bind_some]
    rw [w64_nat (by omega)]
    cases decide ((p.Needs[i].length : Int) > 4) <;> rfl) (by
    unfold slices_IndexFunc_LLimplTerm_impl_PackFault_1_l1b
    rw [if_neg (by simp)])
  have k2 : slices_ContainsFunc_LLimplTerm_impl_PackFault_1 p.Needs = some (p.Needs.any (fun l => decide ((l.length : Int) > 4))) := by
    unfold slices_ContainsFunc_LLimplTerm_impl_PackFault_1 slices_IndexFunc_LLimplTerm_impl_PackFault_1 slices_IndexFunc_LLimplTerm_impl_PackFault_1_l1
    rw [k1, frs_go, ← place_ge (scan_place (fun l : List Term => decide ((l.length : Int) > 4)) p.Needs 0)]
    cases scanL (fun j (x : List Term) => if decide ((x.length : Int) > 4) then some (j : Int) else none) 0 p.Needs <;> rfl
  have k3 : impl_firstCode [NF p.Name, VF p.Version] = some (if NF p.Name != 0 then NF p.Name else VF p.Version) := by
    have k := firstOf2 [NF p.Name, VF p.Version] (by simp)
    unfold impl_firstCode impl_firstCode_l1
    rw [k, frs_go]
    simp only [scanL]
    cases hn : NF p.Name != 0
    · cases hv : VF p.Version != 0
      · have : VF p.Version = 0 := by simpa using hv
        simp [this]
      · rfl
    · rfl
  unfold impl_PackFault PF manyB
  simp only [NameFault_impl, VersionFault_impl, within_eq, Option.bind_some]
  rw [hl, k2, k3]
  simp only [Option.bind_some]
  cases hn : NF p.Name != 0
  · simp only [Bool.false_eq_true, if_false]
    cases VF p.Version != 0 <;> cases inB p.Size 1 200 <;> cases decide ((p.Provides.length : Int) > 4) <;> cases decide ((p.Needs.length : Int) > 4) <;> cases decide ((p.Bars.length : Int) > 4) <;> cases p.Needs.any (fun l => decide ((l.length : Int) > 4)) <;> rfl
  · simp only [if_true, hn]

/-! ### Catalogs -/
/-- One of this name and version. -/
def isB (n : ByteArray) (v : Version) (q : Pack) : Bool := seq q.Name n && eqV q.Version v

theorem find_spec (c : List Pack) (n : ByteArray) (v : Version) (h : c.length ≤ 1048576) : ∃ k, spec_l2Find c n v = some k ∧ decide (k ≥ 0) = c.any (isB n v) := by
  have key := loop_scan c (fun i q => if isB n v q then some (i : Int) else none) (b := spec_l2Find_l1b c n v) (by
    intro i hi
    unfold spec_l2Find_l1b isB
    rw [if_pos (by simp; omega), idx_nat hi]
    simp only [Option.bind_some, CompareVersions_spec, cmpV_zero]
    rw [w64_nat (by omega)]
    cases seq c[i].Name n <;> cases eqV c[i].Version v <;> rfl) (by
    unfold spec_l2Find_l1b
    rw [if_neg (by simp)])
  refine ⟨_, ?_, place_ge (scan_place (isB n v) c 0)⟩
  unfold spec_l2Find spec_l2Find_l1
  rw [key, frs_go]
  cases scanL (fun i q => if isB n v q then some (i : Int) else none) 0 c <;> rfl

theorem find_impl (c : List Pack) (n : ByteArray) (v : Version) (h : c.length ≤ 1048576) : ∃ k, impl_find c n v = some k ∧ decide (k ≥ 0) = c.any (isB n v) := by
  have key := loop_scan c (fun i q => if isB n v q then some (i : Int) else none) (b := slices_IndexFunc_LimplPack_impl_find_1_l1b c n v) (by
    intro i hi
    unfold slices_IndexFunc_LimplPack_impl_find_1_l1b isB impl_find_1
    rw [if_pos (by simp; omega), idx_nat hi]
    simp only [Option.bind_some]
    rw [w64_nat (by omega)]
    show (Option.bind (if seq c[i].Name n = true then some (eqV c[i].Version v) else some false) _) = _
    cases seq c[i].Name n <;> cases eqV c[i].Version v <;> rfl) (by
    unfold slices_IndexFunc_LimplPack_impl_find_1_l1b
    rw [if_neg (by simp)])
  refine ⟨_, ?_, place_ge (scan_place (isB n v) c 0)⟩
  unfold impl_find slices_IndexFunc_LimplPack_impl_find_1 slices_IndexFunc_LimplPack_impl_find_1_l1
  rw [key, frs_go]
  cases scanL (fun i q => if isB n v q then some (i : Int) else none) 0 c <;> rfl

def catG (c : List Pack) (i : Nat) (p : Pack) : Option Int := if PF p != 0 then some (PF p) else if (c.take i).any (isB p.Name p.Version) then some 6 else none

/-- What is wrong with a catalog. -/
def CF (c : List Pack) : Int := if decide ((c.length : Int) > 24) then 2 else (scanL (catG c) 0 c).getD 0

theorem CatalogFault_spec (c : List Pack) (hc : c.length ≤ 1048576 ∧ ∀ y0 ∈ c, Pack.sm 1048576 y0) : spec_CatalogFault c = some (CF c) := by
  have key := loop_scan c (catG c) (b := spec_CatalogFault_l1b c) (by
    intro i hi
    unfold spec_CatalogFault_l1b catG
    rw [if_pos (by simp; omega), idx_nat hi]
    simp only [Option.bind_some]
    rw [PackFault_spec _ (hc.2 _ (List.getElem_mem hi)), take_sub (by omega)]
    simp only [Option.bind_some]
    obtain ⟨k, e, hk⟩ := find_spec (c.take i) c[i].Name c[i].Version (by simp; omega)
    rw [e, w64_nat (by omega)]
    simp only [Option.bind_some]
    rw [hk]
    cases PF c[i] != 0 <;> cases (c.take i).any (isB c[i].Name c[i].Version) <;> rfl) (by
    unfold spec_CatalogFault_l1b
    rw [if_neg (by simp)])
  unfold spec_CatalogFault CF spec_CatalogFault_l1
  rw [key, frs_go]
  cases decide ((c.length : Int) > 24) <;> cases scanL (catG c) 0 c <;> rfl

theorem CatalogFault_impl (c : List Pack) (hc : c.length ≤ 1048576 ∧ ∀ y0 ∈ c, Pack.sm 1048576 y0) : impl_CatalogFault c = some (CF c) := by
  have key := loop_scan c (catG c) (b := impl_CatalogFault_l1b c) (by
    intro i hi
    unfold impl_CatalogFault_l1b catG
    rw [if_pos (by simp; omega), idx_nat hi]
    simp only [Option.bind_some]
    rw [PackFault_impl _ (hc.2 _ (List.getElem_mem hi)), take_sub (by omega)]
    simp only [Option.bind_some]
    obtain ⟨k, e, hk⟩ := find_impl (c.take i) c[i].Name c[i].Version (by simp; omega)
    rw [e, w64_nat (by omega)]
    simp only [Option.bind_some]
    rw [hk]
    cases PF c[i] != 0 <;> cases (c.take i).any (isB c[i].Name c[i].Version) <;> rfl) (by
    unfold impl_CatalogFault_l1b
    rw [if_neg (by simp)])
  unfold impl_CatalogFault CF impl_CatalogFault_l1
  rw [key, frs_go]
  cases decide ((c.length : Int) > 24) <;> cases scanL (catG c) 0 c <;> rfl

/-! ### Catalogs and places -/
def noPack : Pack := { Name := ByteArray.empty, Version := { A := 0, B := 0, C := 0 }, Size := 0, Provides := [], Needs := [], Bars := [] }

def pat (c : List Pack) (k : Int) : Pack := (idx c k).getD noPack

def Places (c : List Pack) (a : List Int) : Prop := ∀ k ∈ a, 0 ≤ k ∧ k < c.length

theorem pat_idx {c : List Pack} {k : Int} (h : 0 ≤ k ∧ k < c.length) : idx c k = some (pat c k) ∧ pat c k ∈ c := by
  unfold pat idx
  rw [if_pos h.1]
  have : k.toNat < c.length := by omega
  rw [List.getElem?_eq_getElem this]
  exact ⟨rfl, List.getElem_mem this⟩

def Cat (c : List Pack) : Prop := c.length ≤ 1048576 ∧ ∀ y0 ∈ c, Pack.sm 1048576 y0

/-! ### Sets and plans -/
def setG (c : List Pack) (a : List Int) (i : Nat) (k : Int) : Option Bool := if !(inB k 0 ((c.length : Int) - 1)) || (decide (0 < i) && decide (k ≤ a.getD (i - 1) 0)) then some false else none

/-- The places are places, in order. -/
def setB (c : List Pack) (a : List Int) : Bool := (scanL (setG c a) 0 a).isNone

theorem getD_lt {a : List Int} {i : Nat} (h : i < a.length) : a.getD i 0 = a[i] := by simp [List.getD, h]

theorem l3Set_spec {c : List Pack} {a : List Int} (hc : c.length ≤ 1048576) (ha : a.length ≤ 1048576) : spec_l3Set c a = some (setB c a) := by
  have key := loop_scan a (setG c a) (b := spec_l3Set_l1b c a) (by
    intro i hi
    unfold spec_l3Set_l1b setG
    rw [if_pos (by simp; omega), idx_nat hi, w64_of (x := (c.length : Int) - 1) (by omega) (by omega)]
    simp only [Option.bind_some, l1In_eq]
    by_cases h0 : 0 < i
    · rw [w64_of (x := (i : Int) - 1) (by omega) (by omega), show (i : Int) - 1 = ((i - 1 : Nat) : Int) by omega, idx_nat (show i - 1 < a.length by omega), getD_lt (show i - 1 < a.length by omega)]
      have e : decide ((i : Int) > 0) = true := by simp; omega
      have e2 : decide (0 < i) = true := by simpa using h0
      rw [e, e2, w64_nat (by omega)]
      simp only [Option.bind_some, Bool.true_and]
      cases inB a[i] 0 ((c.length : Int) - 1) <;> cases decide (a[i] ≤ a[i - 1]) <;> rfl
    · have e : decide ((i : Int) > 0) = false := by simp; omega
      have e2 : decide (0 < i) = false := by simpa using h0
      rw [e, e2, w64_nat (by omega)]
      cases inB a[i] 0 ((c.length : Int) - 1) <;> rfl) (by
    unfold spec_l3Set_l1b
    rw [if_neg (by simp)])
  unfold spec_l3Set spec_l3Set_l1 setB
  rw [key, frs_go]
  have hf : ∀ (l : List Int) (i : Nat), scanL (setG c a) i l = none ∨ scanL (setG c a) i l = some false := by
    intro l
    induction l with
    | nil => intro i; exact .inl rfl
    | cons x l ih =>
      intro i
      simp only [scanL]
      cases hg : setG c a i x with
      | none => exact ih (i + 1)
      | some r =>
        unfold setG at hg
        split at hg
        · cases hg; exact .inr rfl
        · cases hg
  rcases hf a 0 with h | h <;> rw [h] <;> rfl

/-- What is wrong with a set. -/
def SF (c : List Pack) (a : List Int) : Int := if CF c != 0 then CF c else if setB c a then 0 else 1

theorem arePlaces_impl {c : List Pack} {a : List Int} (hc : c.length ≤ 1048576) (ha : a.length ≤ 1048576) : impl_arePlaces c a = some (a.all (fun k => inB k 0 ((c.length : Int) - 1))) := by
  have key := loop_scan a (fun i k => if !(inB k 0 ((c.length : Int) - 1)) then some (i : Int) else none) (b := slices_IndexFunc_Lint64_impl_arePlaces_1_l1b a c) (by
    intro i hi
    unfold slices_IndexFunc_Lint64_impl_arePlaces_1_l1b impl_arePlaces_1
    rw [if_pos (by simp; omega), idx_nat hi, w64_of (x := (c.length : Int) - 1) (by omega) (by omega)]
    simp only [Option.bind_some, within_eq]
    rw [w64_nat (by omega)]
    cases inB a[i] 0 ((c.length : Int) - 1) <;> rfl) (by
    unfold slices_IndexFunc_Lint64_impl_arePlaces_1_l1b
    rw [if_neg (by simp)])
  unfold impl_arePlaces slices_ContainsFunc_Lint64_impl_arePlaces_1 slices_IndexFunc_Lint64_impl_arePlaces_1 slices_IndexFunc_Lint64_impl_arePlaces_1_l1
  rw [key, frs_go]
  have e : a.all (fun k => inB k 0 ((c.length : Int) - 1)) = !(a.any (fun k => !(inB k 0 ((c.length : Int) - 1)))) := by
    rw [List.all_eq_not_any_not]
  rw [e, ← place_ge (scan_place (fun k => !(inB k 0 ((c.length : Int) - 1))) a 0)]
  cases scanL (fun i k => if !(inB k 0 ((c.length : Int) - 1)) then some (i : Int) else none) 0 a <;> rfl

def ordG (a : List Int) (i : Nat) (k : Int) : Option Int := if decide (k ≤ a.getD (i - 1) 0) then some 1 else none

theorem setB_iff (c : List Pack) (a : List Int) : setB c a = ((scanL (ordG a) 1 (a.drop 1)).isNone && a.all (fun k => inB k 0 ((c.length : Int) - 1))) := by
  unfold setB
  rw [Bool.eq_iff_iff, Bool.and_eq_true, Option.isNone_iff_eq_none, Option.isNone_iff_eq_none, scan_none, scan_none, List.all_eq_true]
  constructor
  · intro h
    constructor
    · intro j hj
      have hj' : 1 + j < a.length := by simp at hj; omega
      have := h (1 + j) hj'
      unfold setG at this
      unfold ordG
      rw [List.getElem_drop]
      split at this
      · cases this
      · rename_i hn
        rw [if_neg]
        intro hx
        apply hn
        rw [Nat.zero_add]
        rw [Bool.or_eq_true, Bool.and_eq_true]
        exact .inr ⟨by rw [decide_eq_true_eq]; omega, hx⟩
    · intro k hk
      obtain ⟨i, hi, rfl⟩ := List.mem_iff_getElem.1 hk
      have := h i hi
      unfold setG at this
      split at this
      · cases this
      · rename_i hn
        simp only [Bool.or_eq_true, not_or] at hn
        simpa using hn.1
  · rintro ⟨h1, h2⟩ j hj
    unfold setG
    rw [if_neg]
    rw [Nat.zero_add, h2 _ (List.getElem_mem hj)]
    simp only [Bool.not_true, Bool.false_or, Bool.and_eq_true, not_and]
    intro h0 hx
    have h0' : 0 < j := by simpa using h0
    have hd : j - 1 < (a.drop 1).length := by simp; omega
    have := h1 (j - 1) hd
    unfold ordG at this
    rw [List.getElem_drop] at this
    have ej : 1 + (j - 1) = j := by omega
    simp only [ej] at this
    rw [if_pos hx] at this
    cases this

theorem SetFault_impl {c : List Pack} {a : List Int} (hc : Cat c) (ha : a.length ≤ 1048576) : impl_SetFault c a = some (SF c a) := by
  have hend : impl_SetFault_l1b c a (a.length : Int) = some (.done (.nxt ())) := by
    unfold impl_SetFault_l1b
    rw [if_neg (by simp)]
  have key : impl_SetFault_l1 c a 1 = some (frs (scanL (ordG a) 1 (a.drop 1))) := by
    unfold impl_SetFault_l1
    rcases Nat.eq_zero_or_pos a.length with h0 | h0
    · have : a = [] := List.eq_nil_of_length_eq_zero h0
      subst this
      rw [loop_eq]
      unfold impl_SetFault_l1b
      rw [if_neg (by simp)]
      rfl
    · have hh : ∀ (k i : Nat), 1 ≤ i → i + k = a.length → loop (impl_SetFault_l1b c a) (i : Int) = some (frs (scanL (ordG a) i (a.drop i))) := by
        intro k
        induction k with
        | zero =>
          intro i h1 h
          have e : i = a.length := by omega
          subst e
          rw [loop_eq, hend, List.drop_length]
          rfl
        | succ k ih =>
          intro i h1 h
          have hi : i < a.length := by omega
          have ih := ih (i + 1) (by omega) (by omega)
          rw [loop_eq, List.drop_eq_getElem_cons hi]
          simp only [scanL]
          have hb : impl_SetFault_l1b c a (i : Int) = some (if decide (a[i] ≤ a[i - 1]) then .done (.ret 1) else .go ((i + 1 : Nat) : Int)) := by
            unfold impl_SetFault_l1b
            rw [if_pos (by simp; omega), idx_nat hi, w64_of (x := (i : Int) - 1) (by omega) (by omega), show (i : Int) - 1 = ((i - 1 : Nat) : Int) by omega, idx_nat (show i - 1 < a.length by omega), w64_nat (by omega)]
            simp only [Option.bind_some]
            cases decide (a[i] ≤ a[i - 1]) <;> rfl
          rw [hb]
          unfold ordG
          rw [getD_lt (show i - 1 < a.length by omega)]
          cases decide (a[i] ≤ a[i - 1])
          · exact ih
          · rfl
      exact hh (a.length - 1) 1 (by omega) (by omega)
  unfold impl_SetFault SF
  rw [CatalogFault_impl c hc, key, frs_go, arePlaces_impl hc.1 ha, setB_iff]
  simp only [Option.bind_some]
  have hf : ∀ (l : List Int) (i : Nat), scanL (ordG a) i l = none ∨ scanL (ordG a) i l = some 1 := by
    intro l
    induction l with
    | nil => intro i; exact .inl rfl
    | cons x l ih =>
      intro i
      simp only [scanL]
      cases hg : ordG a i x with
      | none => exact ih (i + 1)
      | some r =>
        unfold ordG at hg
        split at hg
        · cases hg; exact .inr rfl
        · cases hg
  rcases hf (a.drop 1) 1 with h | h <;> rw [h] <;> cases CF c != 0 <;> cases a.all (fun k => inB k 0 ((c.length : Int) - 1)) <;> rfl

/-! ### The path of a package -/
theorem PF_zero {p : Pack} (h : PF p = 0) : NF p.Name = 0 ∧ VF p.Version = 0 ∧ inB p.Size 1 200 = true := by
  unfold PF at h
  split at h
  · rename_i h1; simp [h] at h1
  rename_i h1
  split at h
  · rename_i h2; simp [h] at h2
  rename_i h2
  split at h
  · cases h
  rename_i h3
  exact ⟨by simpa using h1, by simpa using h2, by simpa using h3⟩

/-- The path of a package. -/
def pathS (p : Pack) : ByteArray := bs [112, 107, 103, 47] ++ (p.Name ++ (bs [45] ++ verS p.Version))

theorem l8Path_spec {p : Pack} (h1 : NF p.Name = 0) (h2 : VF p.Version = 0) : spec_l8Path p = some (pathS p) := by
  have a1 := NF_size h1
  have a2 := verS_size h2
  have b1 : (bs [112, 107, 103, 47]).size = 4 := rfl
  have b2 : (bs [45]).size = 1 := rfl
  unfold spec_l8Path pathS
  rw [FormatVersion_spec h2, cat_of (by omega)]
  simp only [Option.bind_some]
  rw [cat_of (by rw [ba_size]; omega)]
  simp only [Option.bind_some]
  rw [cat_of (by simp only [ba_size]; omega)]
  simp only [Option.bind_some, ba_assoc]

theorem path_impl {p : Pack} (h1 : NF p.Name = 0) (h2 : VF p.Version = 0) : impl_Pack_path p = some (pathS p) := by
  have a1 := NF_size h1
  have a2 := verS_size h2
  have b1 : (bs [112, 107, 103, 47]).size = 4 := rfl
  have b2 : (bs [45]).size = 1 := rfl
  unfold impl_Pack_path pathS
  rw [text_impl h2, cat_of (by omega)]
  simp only [Option.bind_some]
  rw [cat_of (by rw [ba_size]; omega)]
  simp only [Option.bind_some]
  rw [cat_of (by simp only [ba_size]; omega)]
  simp only [Option.bind_some, ba_assoc]

/-! ### Right catalogs, right sets -/
theorem scan_nz {α : Type} {g : Nat → α → Option Int} (hg : ∀ i x, g i x ≠ some 0) : ∀ (l : List α) (i : Nat), (scanL g i l).getD 0 = 0 → scanL g i l = none
  | [], _, _ => rfl
  | x :: l, i, h => by
    simp only [scanL] at h ⊢
    cases hx : g i x with
    | none => rw [hx] at h; exact scan_nz hg l (i + 1) h
    | some r =>
      rw [hx] at h
      simp only [Option.getD_some] at h
      subst h
      exact absurd hx (hg i x)

theorem CF_zero {c : List Pack} (h : CF c = 0) : c.length ≤ 24 ∧ (∀ p ∈ c, PF p = 0) ∧ ∀ (j : Nat) (hj : j < c.length), (c.take j).any (isB c[j].Name c[j].Version) = false := by
  unfold CF at h
  split at h
  · cases h
  rename_i h1
  have h2 := scan_nz (g := catG c) (fun i x => by
    unfold catG
    split
    · rename_i h3
      intro e
      rw [Option.some.inj e] at h3
      simp at h3
    · split <;> simp) c 0 h
  rw [scan_none] at h2
  have h3 : ∀ (j : Nat) (hj : j < c.length), PF c[j] = 0 ∧ (c.take j).any (isB c[j].Name c[j].Version) = false := by
    intro j hj
    have := h2 j hj
    unfold catG at this
    rw [Nat.zero_add] at this
    split at this
    · cases this
    · rename_i h4
      split at this
      · cases this
      · rename_i h5
        exact ⟨by simpa using h4, by simpa using h5⟩
  refine ⟨by simp at h1; omega, fun p hp => ?_, fun j hj => (h3 j hj).2⟩
  obtain ⟨j, hj, rfl⟩ := List.getElem_of_mem hp
  exact (h3 j hj).1

theorem rise_pair {a : List Int} (h : ∀ i, (hi : i + 1 < a.length) → a[i] < a[i + 1]) : a.Pairwise (· < ·) := by
  rw [List.pairwise_iff_getElem]
  intro i j hi hj hij
  obtain ⟨d, rfl⟩ : ∃ d, j = i + 1 + d := ⟨j - i - 1, by omega⟩
  clear hij
  induction d with
  | zero => exact h i (by omega)
  | succ d ih =>
    have h1 := ih (by omega)
    have h2 := h (i + 1 + d) (by omega)
    show a[i] < a[i + 1 + d + 1]
    omega

theorem setB_spec {c : List Pack} {a : List Int} : setB c a = true ↔ a.Pairwise (· < ·) ∧ Places c a := by
  unfold setB
  rw [Option.isNone_iff_eq_none, scan_none]
  constructor
  · intro h
    have h1 : ∀ (j : Nat) (hj : j < a.length), inB a[j] 0 ((c.length : Int) - 1) = true ∧ (0 < j → ¬ a[j] ≤ a.getD (j - 1) 0) := by
      intro j hj
      have := h j hj
      unfold setG at this
      rw [Nat.zero_add] at this
      split at this
      · cases this
      · rename_i h2
        simp only [Bool.or_eq_true, Bool.not_eq_true', Bool.and_eq_true, decide_eq_true_eq, not_or, not_and, Bool.not_eq_false] at h2
        exact h2
    refine ⟨rise_pair fun i hi => ?_, fun k hk => ?_⟩
    · have := (h1 (i + 1) hi).2 (by omega)
      rw [show i + 1 - 1 = i by omega, getD_lt (by omega)] at this
      omega
    · obtain ⟨j, hj, rfl⟩ := List.getElem_of_mem hk
      have := (h1 j hj).1
      unfold inB at this
      simp only [Bool.and_eq_true, decide_eq_true_eq] at this
      omega
  · rintro ⟨h1, h2⟩ j hj
    unfold setG
    rw [Nat.zero_add]
    have hk := h2 a[j] (List.getElem_mem hj)
    rw [if_neg]
    simp only [Bool.or_eq_true, Bool.not_eq_true', Bool.and_eq_true, decide_eq_true_eq, not_or, not_and, Bool.not_eq_false]
    refine ⟨by unfold inB; simp; omega, fun h0 => ?_⟩
    rw [getD_lt (by omega)]
    have := (List.pairwise_iff_getElem.1 h1) (j - 1) j (by omega) hj (by omega)
    omega

/-! ### The bytes of a package -/
theorem u8w (x : Int) : IntKind.u8.wrap x = x % 256 := by
  simp only [IntKind.wrap, IntKind.signed, IntKind.bits]
  simp

def nameSum (p : Pack) : Int := p.Version.A + p.Version.B + p.Version.C + (bl p.Name).foldl (· + ·) 0

/-- The bytes, one behind the other. -/
def bseq (b0 : Int) : Nat → Int
  | 0 => b0
  | i + 1 => (31 * bseq b0 i + 7) % 256

def packL (p : Pack) : List Int := (List.range p.Size.toNat).map (bseq (nameSum p % 256))

theorem bseq_range {b0 : Int} (h : 0 ≤ b0 ∧ b0 < 256) : ∀ i, 0 ≤ bseq b0 i ∧ bseq b0 i < 256
  | 0 => h
  | i + 1 => by unfold bseq; omega

theorem foldl_add0 : ∀ (l : List Int) (a : Int), l.foldl (· + ·) a = a + l.foldl (· + ·) 0
  | [], a => by simp
  | x :: l, a => by
    simp only [List.foldl_cons]
    rw [foldl_add0 l (a + x), foldl_add0 l (0 + x)]
    omega

theorem foldI_add : ∀ (l : List Int) (i : Nat) (a : Int), foldI (fun _ a x => a + x) i l a = a + l.foldl (· + ·) 0
  | [], _, a => by simp [foldI]
  | x :: l, i, a => by
    simp only [foldI, List.foldl_cons]
    rw [foldI_add l (i + 1) (a + x), foldl_add0 l (0 + x)]
    omega

theorem foldI_mod : ∀ (l : List Int) (i : Nat) (a b : Int), b = a % 256 → foldI (fun _ a x => (a + x) % 256) i l b = (a + l.foldl (· + ·) 0) % 256
  | [], _, a, b, h => by simp [foldI, h]
  | x :: l, i, a, b, h => by
    simp only [foldI, List.foldl_cons]
    rw [foldI_mod l (i + 1) (a + x) ((b + x) % 256) (by rw [h]; omega), foldl_add0 l (0 + x)]
    congr 1
    omega

theorem l2Bytes_spec {p : Pack} (h1 : NF p.Name = 0) (h2 : VF p.Version = 0) (h3 : 1 ≤ p.Size ∧ p.Size ≤ 200) : spec_l2Bytes p = some (packL p) := by
  obtain ⟨v1, v2, v3⟩ := VF_zero h2
  have hn := NF_size h1
  have hlen : (bl p.Name).length ≤ 12 := by rw [bl_length]; omega
  have k1 := loop_foldI (bl p.Name) (fun _ a x => a + x) (fun i a => 0 ≤ a ∧ a ≤ 3000 + i * 255) (b := spec_l2Bytes_l1b p) (by
    intro i a hi ha
    have hr := bl_range (bl p.Name)[i] (List.getElem_mem hi)
    unfold spec_l2Bytes_l1b
    rw [if_pos (by rw [bl_length] at hi; simp; omega)]
    simp only
    rw [bidx_nat hi]
    simp only [Option.bind_some]
    rw [w64_of (x := (bl p.Name)[i]) (by omega) (by omega), w64_of (by omega) (by omega), w64_nat (by omega)]
    exact ⟨rfl, by omega, by omega⟩) (by
    intro a
    unfold spec_l2Bytes_l1b
    rw [if_neg (by rw [bl_length]; simp)]) (bl p.Name).length 0 (p.Version.A + p.Version.B + p.Version.C) (by omega) ⟨by omega, by omega⟩
  rw [List.drop_zero, foldI_add] at k1
  obtain ⟨e1, b1, b2⟩ := k1
  have hb : 0 ≤ nameSum p ∧ nameSum p ≤ 3000 + 12 * 255 := by
    unfold nameSum
    omega
  obtain ⟨t, e2, rfl⟩ := loop_up (b := spec_l2Bytes_l2b p) (fun i s => s.2.2 = (i : Int) ∧ s.2.1 = (List.range i).map (bseq (nameSum p % 256)) ∧ 0 ≤ s.1 ∧ s.1 ≤ 10000 ∧ s.1 % 256 = bseq (nameSum p % 256) i) p.Size.toNat (fun t => t = packL p) (by
    rintro i ⟨n, out, j⟩ hi ⟨hj, ho, h4, h5, h6⟩
    simp only at hj ho h4 h5 h6
    subst hj ho
    unfold spec_l2Bytes_l2b
    rw [if_pos (by simp; omega)]
    simp only
    have ht : n.tmod 256 = n % 256 := Int.tmod_eq_emod_of_nonneg h4
    rw [ht, u8w, app_of (by simp; omega) (by simp; omega)]
    simp only [Option.bind_some]
    rw [w64_of (x := 31 * (n % 256)) (by omega) (by omega), w64_of (by omega) (by omega), w64_nat (by omega)]
    refine .inl ⟨_, rfl, rfl, ?_, by omega, by omega, ?_⟩
    · simp only
      rw [List.range_succ, List.map_append, show n % 256 % 256 = bseq (nameSum p % 256) i by omega]
      rfl
    · simp only [bseq]
      rw [← h6]) (by
    rintro ⟨n, out, j⟩ ⟨hj, ho, _⟩
    simp only at hj ho
    subst hj ho
    unfold spec_l2Bytes_l2b
    rw [if_neg (by simp; omega)]
    exact ⟨_, rfl, rfl⟩) p.Size.toNat 0 (nameSum p, ([] : List Int), 0) (by omega) ⟨rfl, rfl, hb.1, by omega, rfl⟩
  unfold spec_l2Bytes
  rw [w64_of (x := p.Version.A + p.Version.B) (by omega) (by omega), w64_of (x := p.Version.A + p.Version.B + p.Version.C) (by omega) (by omega)]
  unfold spec_l2Bytes_l1
  rw [show ((0 : Nat) : Int) = 0 from rfl] at e1
  rw [e1]
  simp only [Option.bind_some]
  unfold spec_l2Bytes_l2
  unfold nameSum at e2
  rw [e2]
  rfl

theorem bytes_impl {p : Pack} (h1 : NF p.Name = 0) (h2 : VF p.Version = 0) (h3 : 1 ≤ p.Size ∧ p.Size ≤ 200) : impl_Pack_bytes p = some (packL p) := by
  obtain ⟨v1, v2, v3⟩ := VF_zero h2
  have hn := NF_size h1
  have hlen : (bl p.Name).length ≤ 12 := by rw [bl_length]; omega
  have k1 := loop_foldI (bl p.Name) (fun _ a x => (a + x) % 256) (fun i a => True) (b := impl_Pack_bytes_l1b p) (by
    intro i a hi ha
    unfold impl_Pack_bytes_l1b
    rw [if_pos (by rw [bl_length] at hi; simp; omega)]
    simp only
    rw [bidx_nat hi]
    simp only [Option.bind_some, u8w]
    rw [w64_nat (by omega)]
    exact ⟨rfl, trivial⟩) (by
    intro a
    unfold impl_Pack_bytes_l1b
    rw [if_neg (by rw [bl_length]; simp)]) (bl p.Name).length 0 ((p.Version.A + p.Version.B + p.Version.C) % 256) (by omega) trivial
  rw [List.drop_zero, foldI_mod _ _ (p.Version.A + p.Version.B + p.Version.C) _ rfl] at k1
  have hb : 0 ≤ nameSum p % 256 ∧ nameSum p % 256 < 256 := by omega
  obtain ⟨t, e2, rfl⟩ := loop_up (b := impl_Pack_bytes_l2b p) (fun i s => s.2.2 = (i : Int) ∧ s.2.1 = (List.range i).map (bseq (nameSum p % 256)) ∧ s.1 = bseq (nameSum p % 256) i) p.Size.toNat (fun t => t = packL p) (by
    rintro i ⟨n, out, j⟩ hi ⟨hj, ho, h6⟩
    simp only at hj ho h6
    subst hj ho h6
    have hr := bseq_range hb i
    unfold impl_Pack_bytes_l2b
    rw [if_pos (by simp; omega)]
    simp only
    rw [app_of (by simp; omega) (by simp; omega)]
    simp only [Option.bind_some, u8w]
    rw [w64_nat (by omega)]
    refine .inl ⟨_, rfl, rfl, ?_, ?_⟩
    · simp only
      rw [List.range_succ, List.map_append]
      rfl
    · simp only [bseq]
      omega) (by
    rintro ⟨n, out, j⟩ ⟨hj, ho, _⟩
    simp only at hj ho
    subst hj ho
    unfold impl_Pack_bytes_l2b
    rw [if_neg (by simp; omega)]
    exact ⟨_, rfl, rfl⟩) p.Size.toNat 0 (nameSum p % 256, ([] : List Int), 0) (by omega) ⟨rfl, rfl, rfl⟩
  unfold impl_Pack_bytes
  simp only [u8w]
  rw [show ((p.Version.A % 256 + p.Version.B % 256) % 256 + p.Version.C % 256) % 256 = (p.Version.A + p.Version.B + p.Version.C) % 256 by omega]
  unfold impl_Pack_bytes_l1
  rw [show ((0 : Nat) : Int) = 0 from rfl] at k1
  rw [k1.1]
  simp only [Option.bind_some]
  unfold impl_Pack_bytes_l2
  unfold nameSum at e2
  rw [e2]
  rfl

theorem packL_range (p : Pack) : ∀ x ∈ packL p, 0 ≤ x ∧ x ≤ 255 := by
  intro x hx
  unfold packL at hx
  obtain ⟨i, _, rfl⟩ := List.mem_map.1 hx
  have := bseq_range (b0 := nameSum p % 256) (by omega) i
  omega

/-! ### What is lacking -/
def fileOf (d : Disk) (p : ByteArray) : Option File := d.Files.find? (fun f => decide (f.Path = p))

def lackB (c : List Pack) (d : Disk) (k : Int) : Bool := match fileOf d (pathS (pat c k)) with
  | none => true
  | some f => decide (f.Data ≠ packL (pat c k))

def lackL (c : List Pack) (d : Disk) (a : List Int) : List Int := a.filter (lackB c d)

/-- The bytes of files are bytes. -/
def Byt (d : Disk) : Prop := ∀ f ∈ d.Files, ∀ c ∈ f.Data, 0 ≤ c ∧ c ≤ 255

theorem b2s_inj {a b : List Int} (ha : ∀ c ∈ a, 0 ≤ c ∧ c ≤ 255) (hb : ∀ c ∈ b, 0 ≤ c ∧ c ≤ 255) : seq (b2s a) (b2s b) = decide (a = b) := by
  rw [seq_bl, bl_b2s ha, bl_b2s hb]

theorem EqualB_impl (a b : List Int) (h : a.length ≤ 1048576) : slices_Equal_Lbyte a b = some (decide (a = b)) := by
  unfold slices_Equal_Lbyte
  by_cases hl : a.length = b.length
  · rw [if_neg (by simp [hl])]
    have key := loop_scan a (fun i x => if x != b.getD i 0 then some false else none) (b := slices_Equal_Lbyte_l1b a b) (by
      intro i hi
      unfold slices_Equal_Lbyte_l1b
      rw [if_pos (by simp; omega), idx_nat hi, idx_nat (show i < b.length by omega)]
      simp only [Option.bind_some, getD_lt (show i < b.length by omega)]
      rw [w64_nat (by omega)]
      cases a[i] != b[i] <;> rfl) (by
      unfold slices_Equal_Lbyte_l1b
      rw [if_neg (by simp)])
    unfold slices_Equal_Lbyte_l1
    rw [key, frs_go]
    by_cases he : a = b
    · have hn : scanL (fun i x => if x != b.getD i 0 then some false else none) 0 a = none := by
        rw [scan_none]
        intro j hj
        subst he
        rw [Nat.zero_add, getD_lt hj]
        simp
      rw [hn, decide_eq_true he]
    · rw [decide_eq_false he]
      cases hs : scanL (fun i x => if x != b.getD i 0 then some false else none) 0 a with
      | none =>
        rw [scan_none] at hs
        refine absurd (List.ext_getElem hl fun j h1 h2 => ?_) he
        have := hs j h1
        rw [Nat.zero_add, getD_lt h2] at this
        split at this
        · cases this
        · rename_i h3; simpa using h3
      | some r =>
        have : ∀ (l : List Int) (i : Nat), scanL (fun i x => if x != b.getD i 0 then some false else none) i l = some r → r = false := by
          intro l
          induction l with
          | nil => intro i h; cases h
          | cons x l ih =>
            intro i h
            simp only [scanL] at h
            by_cases hc : (x != b.getD i 0) = true
            · rw [if_pos hc] at h; exact (Option.some.inj h).symm
            · rw [if_neg hc] at h; exact ih _ h
        rw [this a 0 hs]
  · rw [if_pos (by simp; omega), decide_eq_false (fun e => hl (by rw [e]))]

theorem file_both (d : Disk) (p : ByteArray) (hg : d.good) :
    (∃ k : Nat, ∃ hk : k < d.Files.length, spec_l7Find d p = some (k : Int) ∧ impl_Disk_data d p = some (d.Files[k].Data, true) ∧ fileOf d p = some d.Files[k]) ∨
      (spec_l7Find d p = some (-1) ∧ impl_Disk_data d p = some ([], false) ∧ fileOf d p = none) := by
  rcases data_both d p hg with ⟨k, hk, e1, e2, hp⟩ | ⟨e1, e2, hp⟩
  · exact .inl ⟨k, hk, e1, e2, find_of hg.sorted hk hp⟩
  · exact .inr ⟨e1, e2, find_none hp⟩

/-- All packages are right, with their sizes. -/
def Pkz (c : List Pack) : Prop := ∀ p ∈ c, NF p.Name = 0 ∧ VF p.Version = 0 ∧ (1 ≤ p.Size ∧ p.Size ≤ 200)

theorem CF_pkz {c : List Pack} (h : CF c = 0) : Pkz c := fun p hp => by
  obtain ⟨h1, h2, h3⟩ := PF_zero ((CF_zero h).2.1 p hp)
  refine ⟨h1, h2, ?_⟩
  unfold inB at h3
  simpa using h3

theorem foldI_filter {α : Type} (q : α → Bool) : ∀ (l : List α) (i : Nat) (acc : List α), foldI (fun _ a x => if q x then a ++ [x] else a) i l acc = acc ++ l.filter q
  | [], _, acc => by simp [foldI]
  | x :: l, i, acc => by
    simp only [foldI]
    rw [foldI_filter q l (i + 1)]
    cases h : q x <;> simp [h]

section
variable {c : List Pack} {d : Disk} {a : List Int} (hc : Pkz c) (hg : d.good) (hb : Byt d) (hp : Places c a) (ha : a.length ≤ 1048576)

include hc hg hb hp ha in
theorem l8Lacking_spec : spec_l8Lacking c d a = some (lackL c d a) := by
  have key := loop_foldI a (fun _ l k => if lackB c d k then l ++ [k] else l) (fun i l => l.length ≤ i) (b := spec_l8Lacking_l1b c d a) (by
    intro i l hi hl
    have hm := List.getElem_mem hi
    obtain ⟨e1, e2⟩ := pat_idx (hp _ hm)
    obtain ⟨p1, p2, p3⟩ := hc _ e2
    unfold spec_l8Lacking_l1b
    rw [if_pos (by simp; omega)]
    simp only
    rw [idx_nat hi]
    simp only [Option.bind_some, e1, l8Path_spec p1 p2, l2Bytes_spec p1 p2 p3]
    rw [w64_nat (by omega), app_of (by simp; omega) (by simp; omega)]
    have hx : (if lackB c d a[i] then l ++ [a[i]] else l).length ≤ i + 1 := by
      split
      · simp; omega
      · omega
    refine ⟨?_, hx⟩
    have fin : ∀ v52 : Bool, v52 = lackB c d a[i] → ((if v52 = true then (some (l ++ [a[i]])) else (some l)).bind fun v58 => some (Lp.go (v58, ((i + 1 : Nat) : Int)))) = (some (Lp.go ((if lackB c d a[i] = true then l ++ [a[i]] else l), ((i + 1 : Nat) : Int))) : Option (Lp (List Int × Int) (List Int))) := by
      rintro _ rfl
      cases lackB c d a[i] <;> rfl
    rcases file_both d (pathS (pat c a[i])) hg with ⟨k, hk, f1, _, f3⟩ | ⟨f1, _, f3⟩
    · rw [f1]
      simp only [Option.bind_some]
      rw [if_neg (show ¬ decide ((k : Int) < 0) = true by simp), idx_nat hk]
      unfold spec_l8Same
      refine fin _ ?_
      unfold lackB
      rw [f3, b2s_inj (hb _ (List.getElem_mem hk)) (packL_range _)]
      simp
    · rw [f1]
      refine fin true ?_
      unfold lackB
      rw [f3]) (by
    intro l
    unfold spec_l8Lacking_l1b
    rw [if_neg (by simp)]) a.length 0 [] (by omega) (by simp)
  unfold spec_l8Lacking spec_l8Lacking_l1
  rw [show ((0 : Nat) : Int) = 0 from rfl] at key
  rw [key.1, List.drop_zero, foldI_filter]
  rfl

include hc hg hp in
theorem lacking1_impl : ∀ k ∈ a, impl_lacking_1 k d c = some (lackB c d k) := by
  intro k hk
  obtain ⟨e1, e2⟩ := pat_idx (hp k hk)
  obtain ⟨p1, p2, p3⟩ := hc _ e2
  unfold impl_lacking_1
  rw [e1]
  simp only [Option.bind_some, path_impl p1 p2, bytes_impl p1 p2 p3]
  unfold lackB
  rcases file_both d (pathS (pat c k)) hg with ⟨q, hq, _, f2, f3⟩ | ⟨_, f2, f3⟩
  · rw [f2, f3]
    simp only [Option.bind_some]
    rw [if_neg (by simp), EqualB_impl _ _ (by have := hg.data _ (List.getElem_mem hq); omega)]
    simp
  · rw [f2, f3]
    rfl

include hc hg hp ha in
theorem lacking_impl : impl_lacking c d a = some (lackL c d a) := by
  have h1 := lacking1_impl hc hg hp
  have h2 : ∀ k ∈ a, impl_those_1_impl_lacking_1 k d c = some (!(lackB c d k)) := by
    intro k hk
    unfold impl_those_1_impl_lacking_1
    rw [h1 k hk]
    rfl
  have key := del_gen (fun k => !(lackB c d k)) a (0 : Int) (by omega) (b1 := slices_IndexFunc_Lint64r_impl_those_1_impl_lacking_1_l1b a d c) (b2 := slices_DeleteFunc_Lint64r_impl_those_1_impl_lacking_1_l1b d c) (by
    intro i hi
    unfold slices_IndexFunc_Lint64r_impl_those_1_impl_lacking_1_l1b
    rw [if_pos (by simp; omega), idx_nat hi]
    simp only [Option.bind_some, h2 _ (List.getElem_mem hi)]
    rw [w64_nat (by omega)]
    split <;> rfl) (by
    unfold slices_IndexFunc_Lint64r_impl_those_1_impl_lacking_1_l1b
    rw [if_neg (by simp)]) (by
    intro xs i j hj hij hl hm
    unfold slices_DeleteFunc_Lint64r_impl_those_1_impl_lacking_1_l1b
    simp only
    rw [if_pos (by simp; omega), idx_nat hj]
    simp only [Option.bind_some, h2 _ hm]
    rw [idx_nat (show i < xs.length by omega), w64_nat (show j < _ by omega), w64_nat (show i < _ by omega)]
    cases lackB c d xs[j] <;> simp) (by
    intro xs i hl
    unfold slices_DeleteFunc_Lint64r_impl_those_1_impl_lacking_1_l1b
    rw [if_neg (by simp)])
  have hf : a.filter (fun x => !!(lackB c d x)) = lackL c d a := by simp [lackL]
  rw [hf] at key
  unfold impl_lacking impl_those_impl_lacking_1 slices_Clone_Lint64
  rw [app_of (by simp; omega) (by simp; omega)]
  simp only [Option.bind_some, List.nil_append]
  have e : slices_DeleteFunc_Lint64r_impl_those_1_impl_lacking_1 a d c = some (lackL c d a) := key
  rw [e]
  rfl
end

theorem firstCode2 (x y : Int) : impl_firstCode [x, y] = some (if x != 0 then x else y) := by
  unfold impl_firstCode impl_firstCode_l1
  rw [firstOf2 _ (by simp), frs_go]
  simp only [scanL]
  by_cases h : x = 0
  · by_cases h2 : y = 0 <;> simp [h, h2]
  · simp [h]

theorem Asked_spec {c : List Pack} {d : Disk} (hc : Cat c) : ∀ r, spec_DiskFault d = some r → spec_l8Asked c d = some (if CF c != 0 then CF c else r) := by
  intro r hr
  unfold spec_l8Asked
  rw [CatalogFault_spec c hc, hr]
  simp only [Option.bind_some]
  cases CF c != 0 <;> rfl

theorem both_impl {c : List Pack} {d : Disk} (hc : Cat c) : ∀ r, spec_DiskFault d = some r → impl_bothCode c d = some (if CF c != 0 then CF c else r) := by
  intro r hr
  unfold impl_bothCode
  rw [CatalogFault_impl c hc, DiskFault_same, hr]
  simp only [Option.bind_some, firstCode2]

theorem LackingOf_same {c : List Pack} {d : Disk} {a : List Int} (hc : Cat c) (hd : Disk.sm 1048576 d) (hb : Byt d) (ha : a.length ≤ 1048576) : ∃ r, spec_LackingOf c d a = some r ∧ impl_LackingOf c d a = some r ∧ r.Set.length ≤ 1048576 := by
  obtain ⟨k, ek, hk⟩ := DiskFault_spec d hd.1.1
  unfold spec_LackingOf impl_LackingOf
  rw [Asked_spec hc k ek, both_impl hc k ek, SetFault_impl hc ha, l3Set_spec hc.1 ha]
  simp only [Option.bind_some, firstCode2]
  generalize hq : (if (CF c != 0) = true then CF c else k) = q
  by_cases h0 : q = 0
  · subst h0
    have hC : CF c = 0 := by
      cases h : CF c != 0
      · simpa using h
      · rw [h] at hq; simp only [if_true] at hq; exact hq
    have hk0 : k = 0 := by rw [hC] at hq; simpa using hq
    have hg := hk hk0
    unfold SF
    rw [hC]
    cases hs : setB c a
    · exact ⟨_, rfl, rfl, by simp⟩
    · have hp := (setB_spec.1 hs).2
      have e1 := l8Lacking_spec (CF_pkz hC) hg hb hp ha
      have e2 := lacking_impl (CF_pkz hC) hg hp ha
      simp only [bne_self_eq_false, Bool.false_eq_true, if_false, Bool.not_true]
      rw [e1, e2]
      exact ⟨_, rfl, rfl, Nat.le_trans (List.length_filter_le _ _) ha⟩
  · have hn : (q != 0) = true := by simpa using h0
    simp only [hn, if_true]
    exact ⟨_, rfl, rfl, by simp⟩

theorem WholeSet_both (a1 : (List Pack)) (a2 : Disk) (a3 : (List Int)) (k0 : a1.length ≤ maxLen ∧ ∀ y1 ∈ a1, Pack.ok y1) (k1 : Disk.ok a2) (k2 : a3.length ≤ maxLen ∧ ∀ y1 ∈ a3, IntKind.i64.min ≤ y1 ∧ y1 ≤ IntKind.i64.max) (s0 : (a1.length ≤ 1048576 ∧ ∀ y0 ∈ a1, Pack.sm 1048576 y0)) (s1 : (Disk.sm 1048576 a2)) (s2 : (a3.length ≤ 1048576 ∧ ∀ y0 ∈ a3, True)) : ∃ r, spec_WholeSet a1 a2 a3 = some r ∧ impl_WholeSet a1 a2 a3 = some r ∧ (True) := by
  obtain ⟨r, e1, e2, _⟩ := LackingOf_same s0 s1 (fun f hf c hc => by have := (k1.1.2 f hf).2.2 c hc; simpa [IntKind.min, IntKind.max, IntKind.signed, IntKind.bits] using this) s2.1
  unfold spec_WholeSet impl_WholeSet
  rw [e1, e2]
  simp only [Option.bind_some]
  cases r.Code == 0 <;> exact ⟨_, rfl, rfl, trivial⟩

theorem FnExactWholeSet_law (a1 : (List Pack)) (a2 : Disk) (a3 : (List Int)) (k0 : a1.length ≤ maxLen ∧ ∀ y1 ∈ a1, Pack.ok y1) (k1 : Disk.ok a2) (k2 : a3.length ≤ maxLen ∧ ∀ y1 ∈ a3, IntKind.i64.min ≤ y1 ∧ y1 ≤ IntKind.i64.max) : laws_FnExactWholeSet a1 a2 a3 = some true := FnExactWholeSet_true a1 a2 a3 k0 k1 k2 (WholeSet_both a1 a2 a3 k0 k1 k2)
end Go.Told

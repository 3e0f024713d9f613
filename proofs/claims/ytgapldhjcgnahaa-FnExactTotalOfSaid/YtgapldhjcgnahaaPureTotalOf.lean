import Derived.Test.YtgapldhjcgnahaaToldTotalOf
set_option linter.unusedVariables false
namespace Go.Told
open Go Go.Im

/-! ### Loops in general -/
theorem loop_congr {S T : Type} {b b' : S → Option (Lp S T)} (h : ∀ s, b s = b' s) : loop b = loop b' := by
  have : b = b' := funext h
  rw [this]

theorem spec_l7Byte_eq (c : Int) : spec_l7Byte c = some ((decide (c ≥ 97) && decide (c ≤ 122)) || (decide (c ≥ 48) && decide (c ≤ 57)) || c == 95 || c == 46 || c == 45 || c == 47) := by
  unfold spec_l7Byte spec_l1Name spec_l1Letter spec_l1Digit
  generalize decide (c ≥ 97) = p1
  generalize decide (c ≤ 122) = p2
  generalize decide (c ≥ 48) = p3
  generalize decide (c ≤ 57) = p4
  generalize (c == 95) = p5
  generalize (c == 46) = p6
  generalize (c == 45) = p7
  generalize (c == 47) = p8
  cases p1 <;> cases p2 <;> cases p3 <;> cases p4 <;> cases p5 <;> cases p6 <;> cases p7 <;> rfl

theorem impl_isNameByte_eq (c : Int) : impl_isNameByte c = some ((decide (c ≥ 97) && decide (c ≤ 122)) || (decide (c ≥ 48) && decide (c ≤ 57)) || c == 95) := by
  unfold impl_isNameByte
  generalize decide (c ≥ 97) = p1
  generalize decide (c ≤ 122) = p2
  generalize decide (c ≥ 48) = p3
  generalize decide (c ≤ 57) = p4
  cases p1 <;> cases p2 <;> cases p3 <;> cases p4 <;> rfl

theorem PathFault_eq (s : ByteArray) : impl_PathFault s = spec_PathFault s := by
  unfold impl_PathFault spec_PathFault
  have : impl_PathFault_l1 s = spec_PathFault_l1 s := by
    unfold impl_PathFault_l1 spec_PathFault_l1
    refine loop_congr fun i => ?_
    unfold impl_PathFault_l1b spec_PathFault_l1b
    split
    · congr 1
      funext c
      rw [spec_l7Byte_eq, impl_isNameByte_eq]
      generalize ((decide (c ≥ 97) && decide (c ≤ 122)) || (decide (c ≥ 48) && decide (c ≤ 57)) || c == 95) = q
      simp only [bne]
      generalize (c == 46) = p6
      generalize (c == 45) = p7
      generalize (c == 47) = p8
      cases q <;> cases p6 <;> cases p7 <;> cases p8 <;> rfl
    · rfl
  rw [this]

theorem l1In_eq (a b c : Int) : impl_within a b c = spec_l1In a b c := rfl

theorem total_eq (d : Disk) : impl_Disk_total d = spec_l7Total d := rfl

theorem idx_lt {α : Type} {xs : List α} {i : Int} (h0 : 0 ≤ i) (h : i < xs.length) : ∃ a, idx xs i = some a := by
  unfold idx
  rw [if_pos h0]
  exact ⟨_, List.getElem?_eq_getElem (by omega)⟩

theorem DiskFault_eq (d : Disk) : impl_DiskFault d = spec_DiskFault d := by
  unfold impl_DiskFault spec_DiskFault
  have : impl_DiskFault_l1 d = spec_DiskFault_l1 d := by
    unfold impl_DiskFault_l1 spec_DiskFault_l1
    refine loop_congr fun i => ?_
    unfold impl_DiskFault_l1b spec_DiskFault_l1b
    split
    · cases hx : idx d.Files i with
      | none => rfl
      | some x =>
        simp only [Option.bind_some, PathFault_eq]
    · rfl
  rw [this, total_eq]
  simp only [l1In_eq]

/-! ### What is small -/
theorem w64_of {x : Int} (h1 : -9223372036854775808 ≤ x) (h2 : x ≤ 9223372036854775807) : w64 x = x := by
  unfold w64
  rw [IntKind.wrap_i64]
  omega

/-- Going through a list from the front. -/
theorem loop_up {T : Type} {S : Type} {b : S → Option (Lp S T)} (I : Nat → S → Prop) (n : Nat) (Q : T → Prop) (hstep : ∀ i s, i < n → I i s → (∃ s', b s = some (.go s') ∧ I (i + 1) s') ∨ ∃ t, b s = some (.done t) ∧ Q t)
    (hend : ∀ s, I n s → ∃ t, b s = some (.done t) ∧ Q t) : ∀ (k i : Nat) (s : S), i + k = n → I i s → ∃ t, loop b s = some t ∧ Q t
  | 0, i, s, hk, hI => by
    obtain ⟨t, h1, h2⟩ := hend s (by rw [show n = i by omega]; exact hI)
    exact ⟨t, by rw [loop_eq, h1]; rfl, h2⟩
  | k + 1, i, s, hk, hI => by
    rcases hstep i s (by omega) hI with ⟨s', h1, h2⟩ | ⟨t, h1, h2⟩
    · obtain ⟨t, h3, h4⟩ := loop_up I n Q hstep hend k (i + 1) s' (by omega) h2
      exact ⟨t, by rw [loop_eq, h1]; exact h3, h4⟩
    · exact ⟨t, by rw [loop_eq, h1]; rfl, h2⟩

theorem idx_nat {α : Type} {xs : List α} {i : Nat} (h : i < xs.length) : idx xs (i : Int) = some xs[i] := by
  unfold idx
  rw [if_pos (by omega)]
  simp [h]

/-- A list that is copied element by element. -/
theorem copy_step {α β : Type} (f : α → β) (xs : List α) (ys : List β) (i : Nat) (hi : i < xs.length) (hl : ys.length = xs.length) (hp : ys.take i = (xs.take i).map f) : (ys.set i (f xs[i])).take (i + 1) = (xs.take (i + 1)).map f := by
  rw [List.take_succ_eq_append_getElem (by simp; omega), List.take_succ_eq_append_getElem hi, List.map_append, ← hp, List.take_set_of_le (Nat.le_refl _)]
  simp

theorem toByteS_eq (xs : List Int) (h : xs.length ≤ 281474976710656) : laws_toByteS xs = some xs := by
  unfold laws_toByteS
  have hm : mk 1 (xs.length : Int) (0 : Int) = some (List.replicate xs.length 0) := by
    unfold mk; rw [if_pos ⟨by omega, by simp; omega, by omega⟩]; simp
  rw [hm]
  obtain ⟨t, h1, h2⟩ := loop_up (b := laws_toByteS_l1b xs) (fun i s => s.2 = (i : Int) ∧ s.1.length = xs.length ∧ s.1.take i = (xs.take i).map id) xs.length (fun t => t = xs) (by
    rintro i ⟨ys, j⟩ hi ⟨hj, hl, hp⟩
    simp only at hj hl hp
    subst hj
    refine .inl ⟨(ys.set i xs[i], ((i + 1 : Nat) : Int)), ?_, rfl, by simpa using hl, copy_step id xs ys i hi hl hp⟩
    unfold laws_toByteS_l1b
    rw [if_pos (by simp; omega)]
    simp only [idx_nat hi, idx_nat (show i < ys.length by omega), Option.bind_some, Int.toNat_natCast]
    rw [w64_of (by omega) (by omega)]
    rfl) (by
    rintro ⟨ys, j⟩ ⟨hj, hl, hp⟩
    simp only at hj hl hp
    subst hj
    refine ⟨ys, ?_, ?_⟩
    · unfold laws_toByteS_l1b
      rw [if_neg (by simp)]
    · rw [List.take_of_length_le (by omega), List.take_of_length_le (by omega)] at hp
      simpa using hp) xs.length 0 (List.replicate xs.length 0, 0) (by omega) ⟨rfl, by simp, by simp⟩
  simp only [Option.bind_some, laws_toByteS_l1, h1, h2]

theorem toFile_eq (x : File) (h : x.Data.length ≤ 281474976710656) : laws_toFile x = some x := by
  unfold laws_toFile
  rw [toByteS_eq _ h]
  rfl

theorem toFileS_eq (xs : List File) (h : xs.length ≤ 1000000000000) (hd : ∀ x ∈ xs, x.Data.length ≤ 281474976710656) : laws_toFileS xs = some xs := by
  unfold laws_toFileS
  have hm : ∀ z : File, mk 40 (xs.length : Int) z = some (List.replicate xs.length z) := fun z => by
    unfold mk; rw [if_pos ⟨by omega, by simp; omega, by omega⟩]; simp
  rw [hm]
  generalize ({ Path := ByteArray.empty, Data := ([] : List Int) } : File) = z0
  obtain ⟨t, h1, h2⟩ := loop_up (b := laws_toFileS_l1b xs) (fun i s => s.2 = (i : Int) ∧ s.1.length = xs.length ∧ s.1.take i = (xs.take i).map id) xs.length (fun t => t = xs) (by
    rintro i ⟨ys, j⟩ hi ⟨hj, hl, hp⟩
    simp only at hj hl hp
    subst hj
    refine .inl ⟨(ys.set i xs[i], ((i + 1 : Nat) : Int)), ?_, rfl, by simpa using hl, copy_step id xs ys i hi hl hp⟩
    unfold laws_toFileS_l1b
    rw [if_pos (by simp; omega)]
    simp only [idx_nat hi, idx_nat (show i < ys.length by omega), Option.bind_some, Int.toNat_natCast, toFile_eq xs[i] (hd _ (List.getElem_mem hi))]
    rw [w64_of (by omega) (by omega)]
    rfl) (by
    rintro ⟨ys, j⟩ ⟨hj, hl, hp⟩
    simp only at hj hl hp
    subst hj
    refine ⟨ys, ?_, ?_⟩
    · unfold laws_toFileS_l1b
      rw [if_neg (by simp)]
    · rw [List.take_of_length_le (by omega), List.take_of_length_le (by omega)] at hp
      simpa using hp) xs.length 0 (List.replicate xs.length z0, 0) (by omega) ⟨rfl, by simp, by simp⟩
  simp only [Option.bind_some, laws_toFileS_l1, h1, h2]

theorem toDisk_eq (d : Disk) (h : d.Files.length ≤ 1000000000000) (hd : ∀ x ∈ d.Files, x.Data.length ≤ 281474976710656) : laws_toDisk d = some d := by
  unfold laws_toDisk
  rw [toFileS_eq _ h hd]
  rfl

def OkFile (x : File) : Prop := x.Path.size ≤ maxLen ∧ x.Data.length ≤ maxLen
def OkDisk (d : Disk) : Prop := d.Files.length ≤ maxLen ∧ ∀ x ∈ d.Files, OkFile x

theorem szFile_spec (x : File) (hx : OkFile x) (l : Int) (h0 : 0 ≤ l) (h1 : l ≤ 1048576) : ∃ r, laws_szFile x l = some r ∧ (r < 0 ∨ (0 ≤ r ∧ r ≤ l ∧ (x.Data.length : Int) ≤ l)) := by
  obtain ⟨hp, hd⟩ := hx
  unfold maxLen at hp hd
  unfold laws_szFile laws_szByteS
  rw [w64_of (x := l - x.Path.size) (by omega) (by omega)]
  by_cases c1 : l - (x.Path.size : Int) < 0
  · rw [if_pos (by simpa using c1)]
    exact ⟨_, rfl, .inl (by omega)⟩
  · rw [if_neg (by simpa using c1)]
    rw [w64_of (x := l - x.Path.size - x.Data.length) (by omega) (by omega)]
    by_cases c2 : l - (x.Path.size : Int) - x.Data.length < 0
    · rw [if_pos (by simpa using c2)]
      exact ⟨-1, by simp, .inl (by omega)⟩
    · rw [if_neg (by simpa using c2)]
      simp only [Option.bind_some]
      rw [if_neg (by simpa using c2)]
      exact ⟨_, rfl, .inr (by omega)⟩

theorem szFileS_spec (xs : List File) (hm : xs.length ≤ maxLen) (hx : ∀ x ∈ xs, OkFile x) (l : Int) (h0 : 0 ≤ l) (h1 : l ≤ 1048576) :
    ∃ r, laws_szFileS xs l = some r ∧ (r < 0 ∨ (0 ≤ r ∧ r ≤ l ∧ (xs.length : Int) ≤ l ∧ ∀ x ∈ xs, (x.Data.length : Int) ≤ 1048576)) := by
  unfold maxLen at hm
  unfold laws_szFileS
  rw [w64_of (x := l - xs.length) (by omega) (by omega)]
  by_cases c1 : l - (xs.length : Int) < 0
  · rw [if_pos (by simpa using c1)]
    exact ⟨_, rfl, .inl (by omega)⟩
  · rw [if_neg (by simpa using c1)]
    obtain ⟨t, h2, h3⟩ := loop_up (b := laws_szFileS_l1b xs) (fun i s => s.2 = (i : Int) ∧ 0 ≤ s.1 ∧ s.1 ≤ l - xs.length ∧ ∀ j, (hj : j < xs.length) → j < i → (xs[j].Data.length : Int) ≤ 1048576) xs.length
      (fun t => match t with | .ret r => r < 0 | .nxt r => 0 ≤ r ∧ r ≤ l - xs.length ∧ ∀ j, (hj : j < xs.length) → (xs[j].Data.length : Int) ≤ 1048576) (by
      rintro i ⟨q, j⟩ hi ⟨hj, ha, hb, hc⟩
      simp only at hj ha hb hc
      subst hj
      unfold laws_szFileS_l1b
      rw [if_pos (by simp; omega)]
      simp only [idx_nat hi, Option.bind_some]
      obtain ⟨r, g1, g2⟩ := szFile_spec xs[i] (hx _ (List.getElem_mem hi)) q ha (by omega)
      simp only [g1, Option.bind_some]
      rcases g2 with g2 | ⟨g2, g3, g4⟩
      · rw [if_pos (by simpa using g2)]
        exact .inr ⟨_, rfl, by show (-1 : Int) < 0; omega⟩
      · rw [if_neg (by simp; omega)]
        rw [w64_of (by omega) (by omega)]
        refine .inl ⟨_, rfl, by simp, g2, by simp only; omega, fun j hj hji => ?_⟩
        by_cases e : j = i
        · subst e; omega
        · exact hc j hj (by omega)) (by
      rintro ⟨q, j⟩ ⟨hj, ha, hb, hc⟩
      simp only at hj ha hb hc
      subst hj
      unfold laws_szFileS_l1b
      rw [if_neg (by simp)]
      exact ⟨_, rfl, ha, hb, fun j hj => hc j hj hj⟩) xs.length 0 (l - xs.length, 0) (by omega) ⟨rfl, by omega, by omega, fun j _ h => by omega⟩
    simp only [laws_szFileS_l1, h2, Option.bind_some]
    cases t with
    | ret r => exact ⟨r, rfl, .inl h3⟩
    | nxt r =>
      simp only at h3
      refine ⟨r, rfl, .inr ⟨h3.1, by omega, by omega, fun x hx' => ?_⟩⟩
      obtain ⟨j, hj, rfl⟩ := List.getElem_of_mem hx'
      exact h3.2.2 j hj

theorem szDisk_spec (d : Disk) (h : OkDisk d) : ∃ r, laws_szDisk d 1048576 = some r ∧ (r < 0 ∨ ((d.Files.length : Int) ≤ 1048576 ∧ ∀ x ∈ d.Files, (x.Data.length : Int) ≤ 1048576)) := by
  obtain ⟨r, h1, h2⟩ := szFileS_spec d.Files h.1 h.2 1048576 (by omega) (by omega)
  unfold laws_szDisk
  rw [h1]
  simp only [Option.bind_some]
  rcases h2 with h2 | h2
  · rw [if_pos (by simpa using h2)]
    exact ⟨-1, rfl, .inl (by omega)⟩
  · rw [if_neg (by simp; omega)]
    exact ⟨r, rfl, .inr ⟨h2.2.2.1, h2.2.2.2⟩⟩

theorem eqByteS_refl (xs : List Int) (h : xs.length ≤ 1048576) : laws_eqByteS xs xs = some true := by
  unfold laws_eqByteS
  rw [if_neg (by simp)]
  obtain ⟨t, h1, h2⟩ := loop_up (b := laws_eqByteS_l1b xs xs) (fun i s => s = (i : Int)) xs.length (fun t => t = .nxt ()) (by
    rintro i s hi rfl
    unfold laws_eqByteS_l1b
    rw [if_pos (by simp; omega)]
    simp only [idx_nat hi, Option.bind_some]
    rw [if_neg (by simp), w64_of (by omega) (by omega)]
    exact .inl ⟨_, rfl, by simp⟩) (by
    rintro s rfl
    unfold laws_eqByteS_l1b
    rw [if_neg (by simp)]
    exact ⟨_, rfl, rfl⟩) xs.length 0 0 (by omega) rfl
  subst h2
  simp only [laws_eqByteS_l1, h1, Option.bind_some]
  rfl

theorem eqFile_refl (x : File) (h : x.Data.length ≤ 1048576) : laws_eqFile x x = some true := by
  unfold laws_eqFile
  rw [if_neg (by simp [seq]), eqByteS_refl _ h]
  rfl

theorem eqFileS_refl (xs : List File) (h : xs.length ≤ 1048576) (hd : ∀ x ∈ xs, x.Data.length ≤ 1048576) : laws_eqFileS xs xs = some true := by
  unfold laws_eqFileS
  rw [if_neg (by simp)]
  obtain ⟨t, h1, h2⟩ := loop_up (b := laws_eqFileS_l1b xs xs) (fun i s => s = (i : Int)) xs.length (fun t => t = .nxt ()) (by
    rintro i s hi rfl
    unfold laws_eqFileS_l1b
    rw [if_pos (by simp; omega)]
    simp only [idx_nat hi, Option.bind_some, eqFile_refl xs[i] (hd _ (List.getElem_mem hi))]
    rw [if_neg (by simp), w64_of (by omega) (by omega)]
    exact .inl ⟨_, rfl, by simp⟩) (by
    rintro s rfl
    unfold laws_eqFileS_l1b
    rw [if_neg (by simp)]
    exact ⟨_, rfl, rfl⟩) xs.length 0 0 (by omega) rfl
  subst h2
  simp only [laws_eqFileS_l1, h1, Option.bind_some]
  rfl

theorem eqDisk_refl (d : Disk) (h : d.Files.length ≤ 1048576) (hd : ∀ x ∈ d.Files, x.Data.length ≤ 1048576) : laws_eqDisk d d = some true := by
  unfold laws_eqDisk
  rw [eqFileS_refl _ h hd]
  simp

theorem PathFault_some (s : ByteArray) : ∃ r, spec_PathFault s = some r := by
  unfold spec_PathFault
  obtain ⟨q, hq⟩ : ∃ q, (if decide ((s.size : Int) < 1) then some true else some (decide ((s.size : Int) > 40))) = some q := by split <;> exact ⟨_, rfl⟩
  have hb : q = false → s.size ≤ 40 := by
    intro e
    subst e
    split at hq
    · cases hq
    · simp at hq; omega
  simp only [hq, Option.bind_some]
  cases q with
  | true => exact ⟨_, rfl⟩
  | false =>
    have h40 := hb rfl
    obtain ⟨t, h1, _⟩ := loop_up (b := spec_PathFault_l1b s) (fun i j => j = (i : Int)) s.size (fun _ => True) (by
      rintro i j hi rfl
      unfold spec_PathFault_l1b
      rw [if_pos (by simp; omega)]
      have : ∃ c, bidx s (i : Int) = some c := by
        unfold bidx
        rw [if_pos (by omega)]
        have : s[(i : Int).toNat]? = some s[i] := by simp [hi]
        rw [this]
        exact ⟨_, rfl⟩
      obtain ⟨c, hc⟩ := this
      rw [hc]
      simp only [Option.bind_some, spec_l7Byte_eq]
      split
      · exact .inr ⟨_, rfl, trivial⟩
      · rw [w64_of (by omega) (by omega)]
        exact .inl ⟨_, rfl, by simp⟩) (by
      rintro j rfl
      unfold spec_PathFault_l1b
      rw [if_neg (by simp)]
      exact ⟨_, rfl, trivial⟩) s.size 0 0 (by omega) rfl
    simp only [spec_PathFault_l1, h1, Option.bind_some]
    cases t <;> exact ⟨_, rfl⟩

theorem l7Total_some (d : Disk) (h : d.Files.length ≤ 1048576) : ∃ r, spec_l7Total d = some r := by
  unfold spec_l7Total
  obtain ⟨t, h1, _⟩ := loop_up (b := spec_l7Total_l1b d) (fun i s => s.2 = (i : Int)) d.Files.length (fun _ => True) (by
    rintro i ⟨q, j⟩ hi hj
    simp only at hj
    subst hj
    unfold spec_l7Total_l1b
    rw [if_pos (by simp; omega)]
    simp only [idx_nat hi, Option.bind_some]
    rw [w64_of (x := (i : Int) + 1) (by omega) (by omega)]
    exact .inl ⟨_, rfl, by simp⟩) (by
    rintro ⟨q, j⟩ hj
    simp only at hj
    subst hj
    unfold spec_l7Total_l1b
    rw [if_neg (by simp)]
    exact ⟨_, rfl, trivial⟩) d.Files.length 0 (0, 0) (by omega) rfl
  simp only [spec_l7Total_l1, h1, Option.bind_some]
  exact ⟨_, rfl⟩

theorem DiskFault_some (d : Disk) (h : d.Files.length ≤ 1048576) : ∃ r, spec_DiskFault d = some r := by
  unfold spec_DiskFault
  have hin : ∀ a b c, spec_l1In a b c = some (decide (a ≥ b) && decide (a ≤ c)) := fun a b c => by
    unfold spec_l1In
    cases decide (a ≥ b) <;> rfl
  simp only [hin, Option.bind_some]
  obtain ⟨q, hq⟩ : ∃ q, (if !(decide (d.Budget ≥ 0) && decide (d.Budget ≤ 20000)) then some true else if !(decide (d.Writes ≥ 0) && decide (d.Writes ≤ 1000000000)) then some true else some (!(decide (d.Stop ≥ -1) && decide (d.Stop ≤ 1000000000)))) = some q := by
    split
    · exact ⟨_, rfl⟩
    · split <;> exact ⟨_, rfl⟩
  rw [hq]
  simp only [Option.bind_some]
  split
  · exact ⟨_, rfl⟩
  · split
    · exact ⟨_, rfl⟩
    · obtain ⟨t, h1, _⟩ := loop_up (b := spec_DiskFault_l1b d) (fun i s => s = (i : Int)) d.Files.length (fun _ => True) (by
        rintro i s hi rfl
        unfold spec_DiskFault_l1b
        rw [if_pos (by simp; omega)]
        obtain ⟨r, hr⟩ := PathFault_some d.Files[i].Path
        simp only [idx_nat hi, Option.bind_some, hr]
        split
        · exact .inr ⟨_, rfl, trivial⟩
        · obtain ⟨q2, hq2⟩ : ∃ q2, (if decide ((i : Int) > 0) then (idx d.Files (w64 ((i : Int) - 1))).bind fun x39 => some (slt d.Files[i].Path x39.Path || seq d.Files[i].Path x39.Path) else some false) = some q2 := by
            split
            · rename_i hp
              simp at hp
              rw [w64_of (by omega) (by omega), show ((i : Int) - 1) = ((i - 1 : Nat) : Int) by omega, idx_nat (show i - 1 < d.Files.length by omega)]
              exact ⟨_, rfl⟩
            · exact ⟨_, rfl⟩
          rw [hq2]
          simp only [Option.bind_some]
          split
          · exact .inr ⟨_, rfl, trivial⟩
          · split
            · exact .inr ⟨_, rfl, trivial⟩
            · rw [w64_of (by omega) (by omega)]
              exact .inl ⟨_, rfl, by simp⟩) (by
        rintro s rfl
        unfold spec_DiskFault_l1b
        rw [if_neg (by simp)]
        exact ⟨_, rfl, trivial⟩) d.Files.length 0 0 (by omega) rfl
      simp only [spec_DiskFault_l1, h1, Option.bind_some]
      cases t with
      | ret r => exact ⟨_, rfl⟩
      | nxt u =>
        obtain ⟨r, hr⟩ := l7Total_some d h
        simp only [Fl.go, hr, Option.bind_some]
        split <;> exact ⟨_, rfl⟩

theorem TotalOf_eq (d : Disk) : impl_TotalOf d = spec_TotalOf d := by
  unfold impl_TotalOf spec_TotalOf
  rw [DiskFault_eq, total_eq]

theorem TotalOf_some (d : Disk) (h : d.Files.length ≤ 1048576) : ∃ r, spec_TotalOf d = some r := by
  unfold spec_TotalOf
  obtain ⟨q, hq⟩ := DiskFault_some d h
  obtain ⟨t, ht⟩ := l7Total_some d h
  simp only [hq, ht, Option.bind_some]
  split <;> exact ⟨_, rfl⟩

theorem eqIntResult_refl (x : IntResult) : laws_eqIntResult x x = some true := by
  unfold laws_eqIntResult
  simp

theorem FnExactTotalOf_true (d : Disk) (h : OkDisk d) : laws_FnExactTotalOf d = some true := by
  unfold laws_FnExactTotalOf
  obtain ⟨r, h1, h2⟩ := szDisk_spec d h
  rw [h1]
  simp only [Option.bind_some]
  split
  · rfl
  · rename_i hr
    rcases h2 with h2 | ⟨h2, h3⟩
    · exact absurd (by simpa using h2) hr
    · have ht := toDisk_eq d (by omega) (fun x hx => by have := h3 x hx; omega)
      obtain ⟨q, hq⟩ := TotalOf_some d (by omega)
      simp only [ht, Option.bind_some, TotalOf_eq, hq, eqIntResult_refl]
      rw [if_neg (by simp), eqDisk_refl d (by omega) (fun x hx => by have := h3 x hx; omega)]
      rfl
end Go.Told

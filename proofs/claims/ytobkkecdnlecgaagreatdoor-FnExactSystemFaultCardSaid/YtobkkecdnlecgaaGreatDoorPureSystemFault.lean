import Derived.Test.YtobkkecdnlecgaaGreatDoorToldSystemFault
set_option linter.unusedVariables false
set_option maxRecDepth 4000
namespace Go.Told
open Go Go.Im

/-! ### Loops and lists in general -/
theorem loop_congr {S T : Type} {b b' : S → Option (Lp S T)} (h : ∀ s,b s = b' s) : loop b = loop b' := by
  have : b = b' := funext h
  rw [this]

theorem w64_of {x : Int} (h1 : -9223372036854775808 ≤ x) (h2 : x ≤ 9223372036854775807) : w64 x = x := by
  unfold w64
  rw [IntKind.wrap_i64]
  omega

theorem w64_nat {i : Nat} (h : i < 9223372036854775807) : w64 ((i : Int) + 1) = ((i + 1 : Nat) : Int) := by
  rw [w64_of (by omega) (by omega)]; omega

/-- Going through a list from the front. -/
theorem loop_up {T : Type} {S : Type} {b : S → Option (Lp S T)} (I : Nat → S → Prop) (n : Nat) (Q : T → Prop) (hstep : ∀ i s,i < n → I i s → (∃ s',b s = some (.go s') ∧ I (i + 1) s') ∨ ∃ t,b s = some (.done t) ∧ Q t)
    (hend : ∀ s,I n s → ∃ t,b s = some (.done t) ∧ Q t) : ∀ (k i : Nat) (s : S),i + k = n → I i s → ∃ t,loop b s = some t ∧ Q t
  | 0,i,s,hk,hI => by
    obtain ⟨t,h1,h2⟩ := hend s (by rw [show n = i by omega]; exact hI)
    exact ⟨t,by rw [loop_eq,h1]; rfl,h2⟩
  | k + 1,i,s,hk,hI => by
    rcases hstep i s (by omega) hI with ⟨s',h1,h2⟩ | ⟨t,h1,h2⟩
    · obtain ⟨t,h3,h4⟩ := loop_up I n Q hstep hend k (i + 1) s' (by omega) h2
      exact ⟨t,by rw [loop_eq,h1]; exact h3,h4⟩
    · exact ⟨t,by rw [loop_eq,h1]; rfl,h2⟩

theorem idx_nat {α : Type} {xs : List α} {i : Nat} (h : i < xs.length) : idx xs (i : Int) = some xs[i] := by
  unfold idx
  rw [if_pos (by omega)]
  simp [h]

/-- What a walk over a list comes to. -/
def goL {α A T : Type} (g : Nat → A → α → Lp A T) (fin : A → T) : Nat → List α → A → T
  | _,[],a => fin a
  | i,x :: xs,a => match g i a x with
    | .go a' => goL g fin (i + 1) xs a'
    | .done t => t

theorem loop_goL {α A S T : Type} (xs : List α) (g : Nat → A → α → Lp A T) (fin : A → T) (e : Nat → A → S) (I : Nat → A → Prop) {b : S → Option (Lp S T)}
    (hstep : ∀ (i : Nat) (a : A) (hi : i < xs.length),I i a → b (e i a) = some (match g i a xs[i] with | .go a' => .go (e (i + 1) a') | .done t => .done t) ∧ ∀ a',g i a xs[i] = .go a' → I (i + 1) a')
    (hend : ∀ a,I xs.length a → b (e xs.length a) = some (.done (fin a))) : ∀ (k i : Nat) (a : A),i + k = xs.length → I i a → loop b (e i a) = some (goL g fin i (xs.drop i) a)
  | 0,i,a,hk,hI => by
    have : i = xs.length := by omega
    subst this
    rw [loop_eq,hend a hI,List.drop_length]; rfl
  | k + 1,i,a,hk,hI => by
    have hi : i < xs.length := by omega
    obtain ⟨h1,h2⟩ := hstep i a hi hI
    rw [loop_eq,h1,List.drop_eq_getElem_cons hi]
    simp only [goL]
    cases hg : g i a xs[i] with
    | go a' =>
      simp only [Option.bind_some,Lp.elim]
      exact loop_goL xs g fin e I hstep hend k (i + 1) a' (by omega) (h2 a' hg)
    | done t => rfl

theorem loop_list {α A S T : Type} (xs : List α) (g : Nat → A → α → Lp A T) (fin : A → T) (e : Nat → A → S) (I : Nat → A → Prop) {b : S → Option (Lp S T)} (a0 : A)
    (hstep : ∀ (i : Nat) (a : A) (hi : i < xs.length),I i a → b (e i a) = some (match g i a xs[i] with | .go a' => .go (e (i + 1) a') | .done t => .done t) ∧ ∀ a',g i a xs[i] = .go a' → I (i + 1) a')
    (hend : ∀ a,I xs.length a → b (e xs.length a) = some (.done (fin a))) (h0 : I 0 a0) : loop b (e 0 a0) = some (goL g fin 0 xs a0) := by
  have := loop_goL xs g fin e I hstep hend xs.length 0 a0 (by omega) h0
  simpa using this

/-- A list that is copied element by element. -/
theorem to_loop {α : Type} (xs : List α) {b : (List α × Int) → Option (Lp (List α × Int) (List α))} (hstep : ∀ (ys : List α) (i : Nat) (hi : i < xs.length),ys.length = xs.length → b (ys,(i : Int)) = some (.go (ys.set i xs[i],((i + 1 : Nat) : Int))))
    (hend : ∀ ys : List α,ys.length = xs.length → b (ys,(xs.length : Int)) = some (.done ys)) (y0 : List α) (h0 : y0.length = xs.length) : loop b (y0,0) = some xs := by
  obtain ⟨t,h1,h2⟩ := loop_up (b := b) (fun i s => s.2 = (i : Int) ∧ s.1.length = xs.length ∧ s.1.take i = xs.take i) xs.length (fun t => t = xs) (by
    rintro i ⟨ys,j⟩ hi ⟨hj,hl,hp⟩
    simp only at hj hl hp
    subst hj
    refine .inl ⟨_,hstep ys i hi hl,rfl,by simpa using hl,?_⟩
    simp only
    rw [List.take_succ_eq_append_getElem (by simp; omega),List.take_succ_eq_append_getElem hi,← hp,List.take_set_of_le (Nat.le_refl _)]
    simp) (by
    rintro ⟨ys,j⟩ ⟨hj,hl,hp⟩
    simp only at hj hl hp
    subst hj
    refine ⟨ys,hend ys hl,?_⟩
    rw [List.take_of_length_le (by omega),List.take_of_length_le (by omega)] at hp
    exact hp) xs.length 0 (y0,0) (by omega) ⟨rfl,h0,by simp⟩
  rw [h1,h2]

/-- Two lists held against each other that are one. -/
theorem eq_loop {R : Type} (n : Nat) {b : Int → Option (Lp Int (Fl R Unit))} (hstep : ∀ i : Nat,i < n → b (i : Int) = some (.go ((i + 1 : Nat) : Int))) (hend : b (n : Int) = some (.done (.nxt ()))) : loop b 0 = some (.nxt ()) := by
  obtain ⟨t,h1,h2⟩ := loop_up (b := b) (fun i s => s = (i : Int)) n (fun t => t = .nxt ()) (by
    rintro i s hi rfl
    exact .inl ⟨_,hstep i hi,rfl⟩) (by
    rintro s rfl
    exact ⟨_,hend,rfl⟩) n 0 0 (by omega) rfl
  rw [h1,h2]

/-- What is left of a size. -/
theorem sz_loop {α : Type} (xs : List α) (P : α → Prop) (l : Int) {b : (Int × Int) → Option (Lp (Int × Int) (Fl Int Int))}
    (hstep : ∀ (q : Int) (i : Nat) (hi : i < xs.length),0 ≤ q → q ≤ l → (∃ q',b (q,(i : Int)) = some (.go (q',((i + 1 : Nat) : Int))) ∧ 0 ≤ q' ∧ q' ≤ q ∧ P xs[i]) ∨ ∃ t,b (q,(i : Int)) = some (.done (.ret t)) ∧ t < 0)
    (hend : ∀ q : Int,b (q,(xs.length : Int)) = some (.done (.nxt q))) (h0 : 0 ≤ l) :
    ∃ t,loop b (l,0) = some t ∧ match t with | .ret r => r < 0 | .nxt r => 0 ≤ r ∧ r ≤ l ∧ ∀ x ∈ xs,P x := by
  refine loop_up (b := b) (fun i s => s.2 = (i : Int) ∧ 0 ≤ s.1 ∧ s.1 ≤ l ∧ ∀ j,(hj : j < xs.length) → j < i → P xs[j]) xs.length _ (by
    rintro i ⟨q,j⟩ hi ⟨hj,h1,h2,h3⟩
    simp only at hj h1 h2 h3
    subst hj
    rcases hstep q i hi h1 h2 with ⟨q',e,g1,g2,g3⟩ | ⟨t,e,ht⟩
    · refine .inl ⟨_,e,rfl,g1,by simp only; omega,fun j hj hji => ?_⟩
      rcases Nat.lt_or_ge j i with h | h
      · exact h3 j hj h
      · have : j = i := by omega
        subst this; exact g3
    · exact .inr ⟨_,e,ht⟩) (by
    rintro ⟨q,j⟩ ⟨hj,h1,h2,h3⟩
    simp only at hj h1 h2 h3
    subst hj
    refine ⟨_,hend q,h1,h2,fun x hx => ?_⟩
    obtain ⟨j,hj,rfl⟩ := List.getElem_of_mem hx
    exact h3 j hj hj) xs.length 0 (l,0) (by omega) ⟨rfl,h0,Int.le_refl _,fun j _ h => by omega⟩

theorem same_of {α β : Type} {xs : List α} {ys : List β} (h : xs.length = ys.length) : same xs ys = some () := if_pos h

theorem seq_self (a : ByteArray) : seq a a = true := by
  unfold seq
  simp

/-- One mark. -/
def c1 {α : Type} (_ : α) : Int := 1

theorem app_of {α : Type} {B : Nat} {xs ys : List α} (h : (xs.length + ys.length) * B ≤ 140737488355328) (h2 : xs.length + ys.length ≤ 4611686018427387904) : app B xs ys = some (xs ++ ys) := if_pos ⟨h,h2⟩

theorem loop_meas {S T : Type} {b : S → Option (Lp S T)} (I : S → Prop) (μ : S → Nat) (Q : T → Prop) (step : ∀ s,I s → (∃ s',b s = some (.go s') ∧ I s' ∧ μ s' < μ s) ∨ ∃ t,b s = some (.done t) ∧ Q t) : ∀ (n : Nat) (s : S),μ s ≤ n → I s → ∃ t,loop b s = some t ∧ Q t
  | 0,s,hn,hI => by
    rcases step s hI with ⟨s',_,_,h3⟩ | ⟨t,h1,h2⟩
    · omega
    · exact ⟨t,by rw [loop_eq,h1]; rfl,h2⟩
  | n + 1,s,hn,hI => by
    rcases step s hI with ⟨s',h1,h2,h3⟩ | ⟨t,h1,h2⟩
    · obtain ⟨t,h4,h5⟩ := loop_meas I μ Q step n s' (by omega) h2
      exact ⟨t,by rw [loop_eq,h1]; exact h4,h5⟩
    · exact ⟨t,by rw [loop_eq,h1]; rfl,h2⟩

def Version.ok (x : Version) : Prop := (IntKind.i64.min ≤ x.A ∧ x.A ≤ IntKind.i64.max) ∧ (IntKind.i64.min ≤ x.B ∧ x.B ≤ IntKind.i64.max) ∧ (IntKind.i64.min ≤ x.C ∧ x.C ≤ IntKind.i64.max)

def Term.ok (x : Term) : Prop := (x.Name.size ≤ maxLen) ∧ (Version.ok x.Low) ∧ (Version.ok x.High)

def Pack.ok (x : Pack) : Prop := (x.Name.size ≤ maxLen) ∧ (Version.ok x.Version) ∧ (IntKind.i64.min ≤ x.Size ∧ x.Size ≤ IntKind.i64.max) ∧ (x.Provides.length ≤ maxLen ∧ ∀ y1 ∈ x.Provides,y1.size ≤ maxLen) ∧ (x.Needs.length ≤ maxLen ∧ ∀ y1 ∈ x.Needs,y1.length ≤ maxLen ∧ ∀ y2 ∈ y1,Term.ok y2) ∧ (x.Bars.length ≤ maxLen ∧ ∀ y1 ∈ x.Bars,Term.ok y1)

def File.ok (x : File) : Prop := (x.Path.size ≤ maxLen) ∧ (x.Data.length ≤ maxLen ∧ ∀ y1 ∈ x.Data,IntKind.u8.min ≤ y1 ∧ y1 ≤ IntKind.u8.max)

def Disk.ok (x : Disk) : Prop := (x.Files.length ≤ maxLen ∧ ∀ y1 ∈ x.Files,File.ok y1) ∧ (IntKind.i64.min ≤ x.Budget ∧ x.Budget ≤ IntKind.i64.max) ∧ (IntKind.i64.min ≤ x.Writes ∧ x.Writes ≤ IntKind.i64.max) ∧ (IntKind.i64.min ≤ x.Stop ∧ x.Stop ≤ IntKind.i64.max) ∧ (True)

def System.ok (x : System) : Prop := (x.Catalog.length ≤ maxLen ∧ ∀ y1 ∈ x.Catalog,Pack.ok y1) ∧ (Disk.ok x.Disk)

theorem szByteS_ok (x : (List Int)) (hx : x.length ≤ maxLen ∧ ∀ y1 ∈ x,IntKind.u8.min ≤ y1 ∧ y1 ≤ IntKind.u8.max) (l : Int) (h0 : 0 ≤ l) (h1 : l ≤ 1048576) : ∃ r,laws_szByteS x l = some r ∧ (r < 0 ∨ (0 ≤ r ∧ r ≤ l ∧ (x.length ≤ 1048576 ∧ ∀ y0 ∈ x,True))) := by
  obtain ⟨hm,hx⟩ := hx
  unfold maxLen at hm
  unfold laws_szByteS
  rw [w64_of (x := l - x.length) (by omega) (by omega)]
  by_cases c1 : l - (x.length : Int) < 0
  · rw [if_pos (by simpa using c1)]
    exact ⟨_,rfl,.inl (by omega)⟩
  · rw [if_neg (by simpa using c1)]
    exact ⟨_,rfl,.inr ⟨by omega,by omega,by omega,fun _ _ => trivial⟩⟩

def File.sm (B : Nat) (x : File) : Prop := (x.Path.size ≤ B) ∧ (x.Data.length ≤ B ∧ ∀ y0 ∈ x.Data,True)

def Disk.sm (B : Nat) (x : Disk) : Prop := (x.Files.length ≤ B ∧ ∀ y0 ∈ x.Files,File.sm B y0) ∧ (True) ∧ (True) ∧ (True) ∧ (True)

theorem szFile_ok (x : File) (hx : File.ok x) (l : Int) (h0 : 0 ≤ l) (h1 : l ≤ 1048576) : ∃ r,laws_szFile x l = some r ∧ (r < 0 ∨ (0 ≤ r ∧ r ≤ l ∧ (File.sm 1048576 x))) := by
  obtain ⟨k0,k1⟩ := hx
  unfold maxLen at *
  unfold laws_szFile
  rw [w64_of (x := l - x.Path.size) (by omega) (by omega)]
  by_cases c0 : l - (x.Path.size : Int) < 0
  · rw [if_pos (by simpa using c0)]
    exact ⟨_,rfl,.inl (by omega)⟩
  rw [if_neg (by simpa using c0)]
  obtain ⟨r1,e1,g1⟩ := szByteS_ok x.Data k1 (l - x.Path.size) (by omega) (by omega)
  rw [e1]
  simp only [Option.bind_some]
  by_cases c1 : r1 < 0
  · rw [if_pos (by simpa using c1)]
    exact ⟨_,rfl,.inl (by omega)⟩
  rw [if_neg (by simpa using c1)]
  obtain ⟨p1,q1,z1⟩ := g1.resolve_left c1
  exact ⟨_,rfl,.inr ⟨by omega,by omega,by omega,z1⟩⟩

theorem szFileS_ok (x : (List File)) (hx : x.length ≤ maxLen ∧ ∀ y1 ∈ x,File.ok y1) (l : Int) (h0 : 0 ≤ l) (h1 : l ≤ 1048576) : ∃ r,laws_szFileS x l = some r ∧ (r < 0 ∨ (0 ≤ r ∧ r ≤ l ∧ (x.length ≤ 1048576 ∧ ∀ y0 ∈ x,File.sm 1048576 y0))) := by
  obtain ⟨hm,hx⟩ := hx
  unfold maxLen at hm
  unfold laws_szFileS
  rw [w64_of (x := l - x.length) (by omega) (by omega)]
  by_cases c1 : l - (x.length : Int) < 0
  · rw [if_pos (by simpa using c1)]
    exact ⟨_,rfl,.inl (by omega)⟩
  · rw [if_neg (by simpa using c1)]
    have key := sz_loop x (fun y0 => File.sm 1048576 y0) (l - x.length) (b := laws_szFileS_l1b x) ?_ ?_ (by omega)
    · obtain ⟨t,h2,h3⟩ := key
      unfold laws_szFileS_l1
      rw [h2]
      cases t with
      | ret r => exact ⟨r,rfl,.inl h3⟩
      | nxt r => exact ⟨r,rfl,.inr ⟨h3.1,by have := h3.2.1; omega,by omega,h3.2.2⟩⟩
    · intro q i hi hq0 hq1
      unfold laws_szFileS_l1b
      rw [if_pos (by simp; omega)]
      simp only [idx_nat hi,Option.bind_some]
      have hi2 : w64 ((i : Int) + 1) = ((i + 1 : Nat) : Int) := w64_nat (by omega)
      obtain ⟨r,e,hr⟩ := szFile_ok x[i] (hx _ (List.getElem_mem hi)) q hq0 (by omega)
      rw [e]
      simp only [Option.bind_some]
      by_cases c : r < 0
      · rw [if_pos (by simpa using c)]
        exact .inr ⟨_,rfl,by omega⟩
      · rw [if_neg (by simpa using c),hi2]
        obtain ⟨g1,g2,g3⟩ := hr.resolve_left c
        exact .inl ⟨_,rfl,g1,g2,g3⟩
    · intro q
      unfold laws_szFileS_l1b
      rw [if_neg (by simp)]

theorem szDisk_ok (x : Disk) (hx : Disk.ok x) (l : Int) (h0 : 0 ≤ l) (h1 : l ≤ 1048576) : ∃ r,laws_szDisk x l = some r ∧ (r < 0 ∨ (0 ≤ r ∧ r ≤ l ∧ (Disk.sm 1048576 x))) := by
  obtain ⟨k0,k1,k2,k3,k4⟩ := hx
  unfold maxLen at *
  unfold laws_szDisk
  obtain ⟨r0,e0,g0⟩ := szFileS_ok x.Files k0 l (by omega) (by omega)
  rw [e0]
  simp only [Option.bind_some]
  by_cases c0 : r0 < 0
  · rw [if_pos (by simpa using c0)]
    exact ⟨_,rfl,.inl (by omega)⟩
  rw [if_neg (by simpa using c0)]
  obtain ⟨p0,q0,z0⟩ := g0.resolve_left c0
  exact ⟨_,rfl,.inr ⟨by omega,by omega,z0,trivial,trivial,trivial,trivial⟩⟩

def Version.sm (B : Nat) (x : Version) : Prop := (True) ∧ (True) ∧ (True)

def Term.sm (B : Nat) (x : Term) : Prop := (x.Name.size ≤ B) ∧ (Version.sm B x.Low) ∧ (Version.sm B x.High)

def Pack.sm (B : Nat) (x : Pack) : Prop := (x.Name.size ≤ B) ∧ (Version.sm B x.Version) ∧ (True) ∧ (x.Provides.length ≤ B ∧ ∀ y0 ∈ x.Provides,y0.size ≤ B) ∧ (x.Needs.length ≤ B ∧ ∀ y0 ∈ x.Needs,y0.length ≤ B ∧ ∀ y1 ∈ y0,Term.sm B y1) ∧ (x.Bars.length ≤ B ∧ ∀ y0 ∈ x.Bars,Term.sm B y0)

theorem szStringS_ok (x : (List ByteArray)) (hx : x.length ≤ maxLen ∧ ∀ y1 ∈ x,y1.size ≤ maxLen) (l : Int) (h0 : 0 ≤ l) (h1 : l ≤ 1048576) : ∃ r,laws_szStringS x l = some r ∧ (r < 0 ∨ (0 ≤ r ∧ r ≤ l ∧ (x.length ≤ 1048576 ∧ ∀ y0 ∈ x,y0.size ≤ 1048576))) := by
  obtain ⟨hm,hx⟩ := hx
  unfold maxLen at hm
  unfold laws_szStringS
  rw [w64_of (x := l - x.length) (by omega) (by omega)]
  by_cases c1 : l - (x.length : Int) < 0
  · rw [if_pos (by simpa using c1)]
    exact ⟨_,rfl,.inl (by omega)⟩
  · rw [if_neg (by simpa using c1)]
    have key := sz_loop x (fun y0 => y0.size ≤ 1048576) (l - x.length) (b := laws_szStringS_l1b x) ?_ ?_ (by omega)
    · obtain ⟨t,h2,h3⟩ := key
      unfold laws_szStringS_l1
      rw [h2]
      cases t with
      | ret r => exact ⟨r,rfl,.inl h3⟩
      | nxt r => exact ⟨r,rfl,.inr ⟨h3.1,by have := h3.2.1; omega,by omega,h3.2.2⟩⟩
    · intro q i hi hq0 hq1
      unfold laws_szStringS_l1b
      rw [if_pos (by simp; omega)]
      simp only [idx_nat hi,Option.bind_some]
      have hi2 : w64 ((i : Int) + 1) = ((i + 1 : Nat) : Int) := w64_nat (by omega)
      have hs := hx _ (List.getElem_mem hi)
      unfold maxLen at hs
      rw [w64_of (x := q - (x[i]).size) (by omega) (by omega)]
      by_cases c : q - ((x[i]).size : Int) < 0
      · rw [if_pos (by simpa using c)]
        exact .inr ⟨_,rfl,by omega⟩
      · rw [if_neg (by simpa using c),hi2]
        exact .inl ⟨_,rfl,by omega,by omega,by show (x[i]).size ≤ 1048576; omega⟩
    · intro q
      unfold laws_szStringS_l1b
      rw [if_neg (by simp)]

theorem szTerm_ok (x : Term) (hx : Term.ok x) (l : Int) (h0 : 0 ≤ l) (h1 : l ≤ 1048576) : ∃ r,laws_szTerm x l = some r ∧ (r < 0 ∨ (0 ≤ r ∧ r ≤ l ∧ (Term.sm 1048576 x))) := by
  obtain ⟨k0,k1,k2⟩ := hx
  unfold maxLen at *
  unfold laws_szTerm
  rw [w64_of (x := l - x.Name.size) (by omega) (by omega)]
  by_cases c0 : l - (x.Name.size : Int) < 0
  · rw [if_pos (by simpa using c0)]
    exact ⟨_,rfl,.inl (by omega)⟩
  rw [if_neg (by simpa using c0)]
  exact ⟨_,rfl,.inr ⟨by omega,by omega,by omega,⟨trivial,trivial,trivial⟩,⟨trivial,trivial,trivial⟩⟩⟩

theorem szTermS_ok (x : (List Term)) (hx : x.length ≤ maxLen ∧ ∀ y1 ∈ x,Term.ok y1) (l : Int) (h0 : 0 ≤ l) (h1 : l ≤ 1048576) : ∃ r,laws_szTermS x l = some r ∧ (r < 0 ∨ (0 ≤ r ∧ r ≤ l ∧ (x.length ≤ 1048576 ∧ ∀ y0 ∈ x,Term.sm 1048576 y0))) := by
  obtain ⟨hm,hx⟩ := hx
  unfold maxLen at hm
  unfold laws_szTermS
  rw [w64_of (x := l - x.length) (by omega) (by omega)]
  by_cases c1 : l - (x.length : Int) < 0
  · rw [if_pos (by simpa using c1)]
    exact ⟨_,rfl,.inl (by omega)⟩
  · rw [if_neg (by simpa using c1)]
    have key := sz_loop x (fun y0 => Term.sm 1048576 y0) (l - x.length) (b := laws_szTermS_l1b x) ?_ ?_ (by omega)
    · obtain ⟨t,h2,h3⟩ := key
      unfold laws_szTermS_l1
      rw [h2]
      cases t with
      | ret r => exact ⟨r,rfl,.inl h3⟩
      | nxt r => exact ⟨r,rfl,.inr ⟨h3.1,by have := h3.2.1; omega,by omega,h3.2.2⟩⟩
    · intro q i hi hq0 hq1
      unfold laws_szTermS_l1b
      rw [if_pos (by simp; omega)]
      simp only [idx_nat hi,Option.bind_some]
      have hi2 : w64 ((i : Int) + 1) = ((i + 1 : Nat) : Int) := w64_nat (by omega)
      obtain ⟨r,e,hr⟩ := szTerm_ok x[i] (hx _ (List.getElem_mem hi)) q hq0 (by omega)
      rw [e]
      simp only [Option.bind_some]
      by_cases c : r < 0
      · rw [if_pos (by simpa using c)]
        exact .inr ⟨_,rfl,by omega⟩
      · rw [if_neg (by simpa using c),hi2]
        obtain ⟨g1,g2,g3⟩ := hr.resolve_left c
        exact .inl ⟨_,rfl,g1,g2,g3⟩
    · intro q
      unfold laws_szTermS_l1b
      rw [if_neg (by simp)]

theorem szTermSS_ok (x : (List (List Term))) (hx : x.length ≤ maxLen ∧ ∀ y1 ∈ x,y1.length ≤ maxLen ∧ ∀ y2 ∈ y1,Term.ok y2) (l : Int) (h0 : 0 ≤ l) (h1 : l ≤ 1048576) : ∃ r,laws_szTermSS x l = some r ∧ (r < 0 ∨ (0 ≤ r ∧ r ≤ l ∧ (x.length ≤ 1048576 ∧ ∀ y0 ∈ x,y0.length ≤ 1048576 ∧ ∀ y1 ∈ y0,Term.sm 1048576 y1))) := by
  obtain ⟨hm,hx⟩ := hx
  unfold maxLen at hm
  unfold laws_szTermSS
  rw [w64_of (x := l - x.length) (by omega) (by omega)]
  by_cases c1 : l - (x.length : Int) < 0
  · rw [if_pos (by simpa using c1)]
    exact ⟨_,rfl,.inl (by omega)⟩
  · rw [if_neg (by simpa using c1)]
    have key := sz_loop x (fun y0 => y0.length ≤ 1048576 ∧ ∀ y1 ∈ y0,Term.sm 1048576 y1) (l - x.length) (b := laws_szTermSS_l1b x) ?_ ?_ (by omega)
    · obtain ⟨t,h2,h3⟩ := key
      unfold laws_szTermSS_l1
      rw [h2]
      cases t with
      | ret r => exact ⟨r,rfl,.inl h3⟩
      | nxt r => exact ⟨r,rfl,.inr ⟨h3.1,by have := h3.2.1; omega,by omega,h3.2.2⟩⟩
    · intro q i hi hq0 hq1
      unfold laws_szTermSS_l1b
      rw [if_pos (by simp; omega)]
      simp only [idx_nat hi,Option.bind_some]
      have hi2 : w64 ((i : Int) + 1) = ((i + 1 : Nat) : Int) := w64_nat (by omega)
      obtain ⟨r,e,hr⟩ := szTermS_ok x[i] (hx _ (List.getElem_mem hi)) q hq0 (by omega)
      rw [e]
      simp only [Option.bind_some]
      by_cases c : r < 0
      · rw [if_pos (by simpa using c)]
        exact .inr ⟨_,rfl,by omega⟩
      · rw [if_neg (by simpa using c),hi2]
        obtain ⟨g1,g2,g3⟩ := hr.resolve_left c
        exact .inl ⟨_,rfl,g1,g2,g3⟩
    · intro q
      unfold laws_szTermSS_l1b
      rw [if_neg (by simp)]

theorem szPack_ok (x : Pack) (hx : Pack.ok x) (l : Int) (h0 : 0 ≤ l) (h1 : l ≤ 1048576) : ∃ r,laws_szPack x l = some r ∧ (r < 0 ∨ (0 ≤ r ∧ r ≤ l ∧ (Pack.sm 1048576 x))) := by
  obtain ⟨k0,k1,k2,k3,k4,k5⟩ := hx
  unfold maxLen at *
  unfold laws_szPack
  rw [w64_of (x := l - x.Name.size) (by omega) (by omega)]
  by_cases c0 : l - (x.Name.size : Int) < 0
  · rw [if_pos (by simpa using c0)]
    exact ⟨_,rfl,.inl (by omega)⟩
  rw [if_neg (by simpa using c0)]
  obtain ⟨r3,e3,g3⟩ := szStringS_ok x.Provides k3 (l - x.Name.size) (by omega) (by omega)
  rw [e3]
  simp only [Option.bind_some]
  by_cases c3 : r3 < 0
  · rw [if_pos (by simpa using c3)]
    exact ⟨_,rfl,.inl (by omega)⟩
  rw [if_neg (by simpa using c3)]
  obtain ⟨p3,q3,z3⟩ := g3.resolve_left c3
  obtain ⟨r4,e4,g4⟩ := szTermSS_ok x.Needs k4 r3 (by omega) (by omega)
  rw [e4]
  simp only [Option.bind_some]
  by_cases c4 : r4 < 0
  · rw [if_pos (by simpa using c4)]
    exact ⟨_,rfl,.inl (by omega)⟩
  rw [if_neg (by simpa using c4)]
  obtain ⟨p4,q4,z4⟩ := g4.resolve_left c4
  obtain ⟨r5,e5,g5⟩ := szTermS_ok x.Bars k5 r4 (by omega) (by omega)
  rw [e5]
  simp only [Option.bind_some]
  by_cases c5 : r5 < 0
  · rw [if_pos (by simpa using c5)]
    exact ⟨_,rfl,.inl (by omega)⟩
  rw [if_neg (by simpa using c5)]
  obtain ⟨p5,q5,z5⟩ := g5.resolve_left c5
  exact ⟨_,rfl,.inr ⟨by omega,by omega,by omega,⟨trivial,trivial,trivial⟩,trivial,z3,z4,z5⟩⟩

theorem szPackS_ok (x : (List Pack)) (hx : x.length ≤ maxLen ∧ ∀ y1 ∈ x,Pack.ok y1) (l : Int) (h0 : 0 ≤ l) (h1 : l ≤ 1048576) : ∃ r,laws_szPackS x l = some r ∧ (r < 0 ∨ (0 ≤ r ∧ r ≤ l ∧ (x.length ≤ 1048576 ∧ ∀ y0 ∈ x,Pack.sm 1048576 y0))) := by
  obtain ⟨hm,hx⟩ := hx
  unfold maxLen at hm
  unfold laws_szPackS
  rw [w64_of (x := l - x.length) (by omega) (by omega)]
  by_cases c1 : l - (x.length : Int) < 0
  · rw [if_pos (by simpa using c1)]
    exact ⟨_,rfl,.inl (by omega)⟩
  · rw [if_neg (by simpa using c1)]
    have key := sz_loop x (fun y0 => Pack.sm 1048576 y0) (l - x.length) (b := laws_szPackS_l1b x) ?_ ?_ (by omega)
    · obtain ⟨t,h2,h3⟩ := key
      unfold laws_szPackS_l1
      rw [h2]
      cases t with
      | ret r => exact ⟨r,rfl,.inl h3⟩
      | nxt r => exact ⟨r,rfl,.inr ⟨h3.1,by have := h3.2.1; omega,by omega,h3.2.2⟩⟩
    · intro q i hi hq0 hq1
      unfold laws_szPackS_l1b
      rw [if_pos (by simp; omega)]
      simp only [idx_nat hi,Option.bind_some]
      have hi2 : w64 ((i : Int) + 1) = ((i + 1 : Nat) : Int) := w64_nat (by omega)
      obtain ⟨r,e,hr⟩ := szPack_ok x[i] (hx _ (List.getElem_mem hi)) q hq0 (by omega)
      rw [e]
      simp only [Option.bind_some]
      by_cases c : r < 0
      · rw [if_pos (by simpa using c)]
        exact .inr ⟨_,rfl,by omega⟩
      · rw [if_neg (by simpa using c),hi2]
        obtain ⟨g1,g2,g3⟩ := hr.resolve_left c
        exact .inl ⟨_,rfl,g1,g2,g3⟩
    · intro q
      unfold laws_szPackS_l1b
      rw [if_neg (by simp)]

def System.sm (B : Nat) (x : System) : Prop := (x.Catalog.length ≤ B ∧ ∀ y0 ∈ x.Catalog,Pack.sm B y0) ∧ (Disk.sm B x.Disk)

theorem szSystem_ok (x : System) (hx : System.ok x) (l : Int) (h0 : 0 ≤ l) (h1 : l ≤ 1048576) : ∃ r,laws_szSystem x l = some r ∧ (r < 0 ∨ (0 ≤ r ∧ r ≤ l ∧ (System.sm 1048576 x))) := by
  obtain ⟨k0,k1⟩ := hx
  unfold maxLen at *
  unfold laws_szSystem
  obtain ⟨r0,e0,g0⟩ := szPackS_ok x.Catalog k0 l (by omega) (by omega)
  rw [e0]
  simp only [Option.bind_some]
  by_cases c0 : r0 < 0
  · rw [if_pos (by simpa using c0)]
    exact ⟨_,rfl,.inl (by omega)⟩
  rw [if_neg (by simpa using c0)]
  obtain ⟨p0,q0,z0⟩ := g0.resolve_left c0
  obtain ⟨r1,e1,g1⟩ := szDisk_ok x.Disk k1 r0 (by omega) (by omega)
  rw [e1]
  simp only [Option.bind_some]
  by_cases c1 : r1 < 0
  · rw [if_pos (by simpa using c1)]
    exact ⟨_,rfl,.inl (by omega)⟩
  rw [if_neg (by simpa using c1)]
  obtain ⟨p1,q1,z1⟩ := g1.resolve_left c1
  exact ⟨_,rfl,.inr ⟨by omega,by omega,z0,z1⟩⟩

theorem toByteS_eq (x : (List Int)) (hx : x.length ≤ 1049600 ∧ ∀ y0 ∈ x,True) : laws_toByteS x = some x := by
  have hl := hx.1
  unfold laws_toByteS
  have hm : ∀ z : Int,mk 1 (x.length : Int) z = some (List.replicate x.length z) := fun z => by
    unfold mk; rw [if_pos ⟨by omega,by simp; omega,by omega⟩]; simp
  rw [hm]
  simp only [Option.bind_some,laws_toByteS_l1]
  rw [to_loop x ?_ ?_ _ (by simp)]
  · rfl
  · intro ys i hi hl2
    unfold laws_toByteS_l1b
    rw [if_pos (by simp; omega)]
    have hi2 : w64 ((i : Int) + 1) = ((i + 1 : Nat) : Int) := w64_nat (by omega)
    simp only [idx_nat hi,idx_nat (show i < ys.length by omega),Option.bind_some,Int.toNat_natCast,hi2]
  · intro ys _
    unfold laws_toByteS_l1b
    rw [if_neg (by simp)]

theorem toFile_eq (x : File) (hx : File.sm 1049600 x) : laws_toFile x = some x := by
  obtain ⟨h0,h1⟩ := hx
  unfold laws_toFile
  simp only [toByteS_eq x.Data h1,Option.bind_some]

theorem toFileS_eq (x : (List File)) (hx : x.length ≤ 1049600 ∧ ∀ y0 ∈ x,File.sm 1049600 y0) : laws_toFileS x = some x := by
  have hl := hx.1
  unfold laws_toFileS
  have hm : ∀ z : File,mk 40 (x.length : Int) z = some (List.replicate x.length z) := fun z => by
    unfold mk; rw [if_pos ⟨by omega,by simp; omega,by omega⟩]; simp
  rw [hm]
  simp only [Option.bind_some,laws_toFileS_l1]
  rw [to_loop x ?_ ?_ _ (by simp)]
  · rfl
  · intro ys i hi hl2
    unfold laws_toFileS_l1b
    rw [if_pos (by simp; omega)]
    have hi2 : w64 ((i : Int) + 1) = ((i + 1 : Nat) : Int) := w64_nat (by omega)
    simp only [idx_nat hi,idx_nat (show i < ys.length by omega),Option.bind_some,Int.toNat_natCast,hi2,toFile_eq x[i] (hx.2 _ (List.getElem_mem hi))]
  · intro ys _
    unfold laws_toFileS_l1b
    rw [if_neg (by simp)]

theorem toDisk_eq (x : Disk) (hx : Disk.sm 1049600 x) : laws_toDisk x = some x := by
  obtain ⟨h0,h1,h2,h3,h4⟩ := hx
  unfold laws_toDisk
  simp only [toFileS_eq x.Files h0,Option.bind_some]

theorem toVersion_eq (x : Version) (hx : Version.sm 1049600 x) : laws_toVersion x = some x := by
  obtain ⟨h0,h1,h2⟩ := hx
  unfold laws_toVersion
  rfl

theorem toStringS_eq (x : (List ByteArray)) (hx : x.length ≤ 1049600 ∧ ∀ y0 ∈ x,y0.size ≤ 1049600) : laws_toStringS x = some x := by
  have hl := hx.1
  unfold laws_toStringS
  have hm : ∀ z : ByteArray,mk 16 (x.length : Int) z = some (List.replicate x.length z) := fun z => by
    unfold mk; rw [if_pos ⟨by omega,by simp; omega,by omega⟩]; simp
  rw [hm]
  simp only [Option.bind_some,laws_toStringS_l1]
  rw [to_loop x ?_ ?_ _ (by simp)]
  · rfl
  · intro ys i hi hl2
    unfold laws_toStringS_l1b
    rw [if_pos (by simp; omega)]
    have hi2 : w64 ((i : Int) + 1) = ((i + 1 : Nat) : Int) := w64_nat (by omega)
    simp only [idx_nat hi,idx_nat (show i < ys.length by omega),Option.bind_some,Int.toNat_natCast,hi2]
  · intro ys _
    unfold laws_toStringS_l1b
    rw [if_neg (by simp)]

theorem toTerm_eq (x : Term) (hx : Term.sm 1049600 x) : laws_toTerm x = some x := by
  obtain ⟨h0,h1,h2⟩ := hx
  unfold laws_toTerm
  simp only [toVersion_eq x.Low h1,toVersion_eq x.High h2,Option.bind_some]

theorem toTermS_eq (x : (List Term)) (hx : x.length ≤ 1049600 ∧ ∀ y0 ∈ x,Term.sm 1049600 y0) : laws_toTermS x = some x := by
  have hl := hx.1
  unfold laws_toTermS
  have hm : ∀ z : Term,mk 64 (x.length : Int) z = some (List.replicate x.length z) := fun z => by
    unfold mk; rw [if_pos ⟨by omega,by simp; omega,by omega⟩]; simp
  rw [hm]
  simp only [Option.bind_some,laws_toTermS_l1]
  rw [to_loop x ?_ ?_ _ (by simp)]
  · rfl
  · intro ys i hi hl2
    unfold laws_toTermS_l1b
    rw [if_pos (by simp; omega)]
    have hi2 : w64 ((i : Int) + 1) = ((i + 1 : Nat) : Int) := w64_nat (by omega)
    simp only [idx_nat hi,idx_nat (show i < ys.length by omega),Option.bind_some,Int.toNat_natCast,hi2,toTerm_eq x[i] (hx.2 _ (List.getElem_mem hi))]
  · intro ys _
    unfold laws_toTermS_l1b
    rw [if_neg (by simp)]

theorem toTermSS_eq (x : (List (List Term))) (hx : x.length ≤ 1049600 ∧ ∀ y0 ∈ x,y0.length ≤ 1049600 ∧ ∀ y1 ∈ y0,Term.sm 1049600 y1) : laws_toTermSS x = some x := by
  have hl := hx.1
  unfold laws_toTermSS
  have hm : ∀ z : (List Term),mk 24 (x.length : Int) z = some (List.replicate x.length z) := fun z => by
    unfold mk; rw [if_pos ⟨by omega,by simp; omega,by omega⟩]; simp
  rw [hm]
  simp only [Option.bind_some,laws_toTermSS_l1]
  rw [to_loop x ?_ ?_ _ (by simp)]
  · rfl
  · intro ys i hi hl2
    unfold laws_toTermSS_l1b
    rw [if_pos (by simp; omega)]
    have hi2 : w64 ((i : Int) + 1) = ((i + 1 : Nat) : Int) := w64_nat (by omega)
    simp only [idx_nat hi,idx_nat (show i < ys.length by omega),Option.bind_some,Int.toNat_natCast,hi2,toTermS_eq x[i] (hx.2 _ (List.getElem_mem hi))]
  · intro ys _
    unfold laws_toTermSS_l1b
    rw [if_neg (by simp)]

theorem toPack_eq (x : Pack) (hx : Pack.sm 1049600 x) : laws_toPack x = some x := by
  obtain ⟨h0,h1,h2,h3,h4,h5⟩ := hx
  unfold laws_toPack
  simp only [toVersion_eq x.Version h1,toStringS_eq x.Provides h3,toTermSS_eq x.Needs h4,toTermS_eq x.Bars h5,Option.bind_some]

theorem toPackS_eq (x : (List Pack)) (hx : x.length ≤ 1049600 ∧ ∀ y0 ∈ x,Pack.sm 1049600 y0) : laws_toPackS x = some x := by
  have hl := hx.1
  unfold laws_toPackS
  have hm : ∀ z : Pack,mk 120 (x.length : Int) z = some (List.replicate x.length z) := fun z => by
    unfold mk; rw [if_pos ⟨by omega,by simp; omega,by omega⟩]; simp
  rw [hm]
  simp only [Option.bind_some,laws_toPackS_l1]
  rw [to_loop x ?_ ?_ _ (by simp)]
  · rfl
  · intro ys i hi hl2
    unfold laws_toPackS_l1b
    rw [if_pos (by simp; omega)]
    have hi2 : w64 ((i : Int) + 1) = ((i + 1 : Nat) : Int) := w64_nat (by omega)
    simp only [idx_nat hi,idx_nat (show i < ys.length by omega),Option.bind_some,Int.toNat_natCast,hi2,toPack_eq x[i] (hx.2 _ (List.getElem_mem hi))]
  · intro ys _
    unfold laws_toPackS_l1b
    rw [if_neg (by simp)]

theorem toSystem_eq (x : System) (hx : System.sm 1049600 x) : laws_toSystem x = some x := by
  obtain ⟨h0,h1⟩ := hx
  unfold laws_toSystem
  simp only [toPackS_eq x.Catalog h0,toDisk_eq x.Disk h1,Option.bind_some]

theorem eqByteS_self (x : (List Int)) (hx : x.length ≤ 1049600 ∧ ∀ y0 ∈ x,True) : laws_eqByteS x x = some true := by
  have hl := hx.1
  unfold laws_eqByteS
  rw [if_neg (by simp)]
  unfold laws_eqByteS_l1
  rw [eq_loop x.length ?_ ?_]
  · rfl
  · intro i hi
    unfold laws_eqByteS_l1b
    rw [if_pos (by simp; omega)]
    have hi2 : w64 ((i : Int) + 1) = ((i + 1 : Nat) : Int) := w64_nat (by omega)
    simp [idx_nat hi,hi2]
  · unfold laws_eqByteS_l1b
    rw [if_neg (by simp)]

theorem eqFile_self (x : File) (hx : File.sm 1049600 x) : laws_eqFile x x = some true := by
  obtain ⟨h0,h1⟩ := hx
  unfold laws_eqFile
  simp [eqByteS_self x.Data h1]

theorem eqFileS_self (x : (List File)) (hx : x.length ≤ 1049600 ∧ ∀ y0 ∈ x,File.sm 1049600 y0) : laws_eqFileS x x = some true := by
  have hl := hx.1
  unfold laws_eqFileS
  rw [if_neg (by simp)]
  unfold laws_eqFileS_l1
  rw [eq_loop x.length ?_ ?_]
  · rfl
  · intro i hi
    unfold laws_eqFileS_l1b
    rw [if_pos (by simp; omega)]
    have hi2 : w64 ((i : Int) + 1) = ((i + 1 : Nat) : Int) := w64_nat (by omega)
    simp [idx_nat hi,hi2,eqFile_self x[i] (hx.2 _ (List.getElem_mem hi))]
  · unfold laws_eqFileS_l1b
    rw [if_neg (by simp)]

theorem eqDisk_self (x : Disk) (hx : Disk.sm 1049600 x) : laws_eqDisk x x = some true := by
  obtain ⟨h0,h1,h2,h3,h4⟩ := hx
  unfold laws_eqDisk
  simp [eqFileS_self x.Files h0]

theorem eqVersion_self (x : Version) (hx : Version.sm 1049600 x) : laws_eqVersion x x = some true := by
  obtain ⟨h0,h1,h2⟩ := hx
  unfold laws_eqVersion
  simp

theorem eqStringS_self (x : (List ByteArray)) (hx : x.length ≤ 1049600 ∧ ∀ y0 ∈ x,y0.size ≤ 1049600) : laws_eqStringS x x = some true := by
  have hl := hx.1
  unfold laws_eqStringS
  rw [if_neg (by simp)]
  unfold laws_eqStringS_l1
  rw [eq_loop x.length ?_ ?_]
  · rfl
  · intro i hi
    unfold laws_eqStringS_l1b
    rw [if_pos (by simp; omega)]
    have hi2 : w64 ((i : Int) + 1) = ((i + 1 : Nat) : Int) := w64_nat (by omega)
    simp [idx_nat hi,hi2]
  · unfold laws_eqStringS_l1b
    rw [if_neg (by simp)]

theorem eqTerm_self (x : Term) (hx : Term.sm 1049600 x) : laws_eqTerm x x = some true := by
  obtain ⟨h0,h1,h2⟩ := hx
  unfold laws_eqTerm
  simp [eqVersion_self x.Low h1,eqVersion_self x.High h2]

theorem eqTermS_self (x : (List Term)) (hx : x.length ≤ 1049600 ∧ ∀ y0 ∈ x,Term.sm 1049600 y0) : laws_eqTermS x x = some true := by
  have hl := hx.1
  unfold laws_eqTermS
  rw [if_neg (by simp)]
  unfold laws_eqTermS_l1
  rw [eq_loop x.length ?_ ?_]
  · rfl
  · intro i hi
    unfold laws_eqTermS_l1b
    rw [if_pos (by simp; omega)]
    have hi2 : w64 ((i : Int) + 1) = ((i + 1 : Nat) : Int) := w64_nat (by omega)
    simp [idx_nat hi,hi2,eqTerm_self x[i] (hx.2 _ (List.getElem_mem hi))]
  · unfold laws_eqTermS_l1b
    rw [if_neg (by simp)]

theorem eqTermSS_self (x : (List (List Term))) (hx : x.length ≤ 1049600 ∧ ∀ y0 ∈ x,y0.length ≤ 1049600 ∧ ∀ y1 ∈ y0,Term.sm 1049600 y1) : laws_eqTermSS x x = some true := by
  have hl := hx.1
  unfold laws_eqTermSS
  rw [if_neg (by simp)]
  unfold laws_eqTermSS_l1
  rw [eq_loop x.length ?_ ?_]
  · rfl
  · intro i hi
    unfold laws_eqTermSS_l1b
    rw [if_pos (by simp; omega)]
    have hi2 : w64 ((i : Int) + 1) = ((i + 1 : Nat) : Int) := w64_nat (by omega)
    simp [idx_nat hi,hi2,eqTermS_self x[i] (hx.2 _ (List.getElem_mem hi))]
  · unfold laws_eqTermSS_l1b
    rw [if_neg (by simp)]

theorem eqPack_self (x : Pack) (hx : Pack.sm 1049600 x) : laws_eqPack x x = some true := by
  obtain ⟨h0,h1,h2,h3,h4,h5⟩ := hx
  unfold laws_eqPack
  simp [eqVersion_self x.Version h1,eqStringS_self x.Provides h3,eqTermSS_self x.Needs h4,eqTermS_self x.Bars h5]

theorem eqPackS_self (x : (List Pack)) (hx : x.length ≤ 1049600 ∧ ∀ y0 ∈ x,Pack.sm 1049600 y0) : laws_eqPackS x x = some true := by
  have hl := hx.1
  unfold laws_eqPackS
  rw [if_neg (by simp)]
  unfold laws_eqPackS_l1
  rw [eq_loop x.length ?_ ?_]
  · rfl
  · intro i hi
    unfold laws_eqPackS_l1b
    rw [if_pos (by simp; omega)]
    have hi2 : w64 ((i : Int) + 1) = ((i + 1 : Nat) : Int) := w64_nat (by omega)
    simp [idx_nat hi,hi2,eqPack_self x[i] (hx.2 _ (List.getElem_mem hi))]
  · unfold laws_eqPackS_l1b
    rw [if_neg (by simp)]

theorem eqSystem_self (x : System) (hx : System.sm 1049600 x) : laws_eqSystem x x = some true := by
  obtain ⟨h0,h1⟩ := hx
  unfold laws_eqSystem
  simp [eqPackS_self x.Catalog h0,eqDisk_self x.Disk h1]

theorem Version.sm_mono {x : Version} (h : Version.sm 1048576 x) : Version.sm 1049600 x := ⟨trivial,trivial,trivial⟩

theorem Term.sm_mono {x : Term} (h : Term.sm 1048576 x) : Term.sm 1049600 x := ⟨(Nat.le_trans h.1 (by decide)),(Version.sm_mono h.2.1),(Version.sm_mono h.2.2)⟩

theorem Pack.sm_mono {x : Pack} (h : Pack.sm 1048576 x) : Pack.sm 1049600 x := ⟨(Nat.le_trans h.1 (by decide)),(Version.sm_mono h.2.1),trivial,⟨Nat.le_trans h.2.2.2.1.1 (by decide),fun y0 z0 => (Nat.le_trans (h.2.2.2.1.2 y0 z0) (by decide))⟩,⟨Nat.le_trans h.2.2.2.2.1.1 (by decide),fun y0 z0 => ⟨Nat.le_trans (h.2.2.2.2.1.2 y0 z0).1 (by decide),fun y1 z1 => (Term.sm_mono ((h.2.2.2.2.1.2 y0 z0).2 y1 z1))⟩⟩,⟨Nat.le_trans h.2.2.2.2.2.1 (by decide),fun y0 z0 => (Term.sm_mono (h.2.2.2.2.2.2 y0 z0))⟩⟩

theorem File.sm_mono {x : File} (h : File.sm 1048576 x) : File.sm 1049600 x := ⟨(Nat.le_trans h.1 (by decide)),⟨Nat.le_trans h.2.1 (by decide),fun y0 z0 => trivial⟩⟩

theorem Disk.sm_mono {x : Disk} (h : Disk.sm 1048576 x) : Disk.sm 1049600 x := ⟨⟨Nat.le_trans h.1.1 (by decide),fun y0 z0 => (File.sm_mono (h.1.2 y0 z0))⟩,trivial,trivial,trivial,trivial⟩

theorem System.sm_mono {x : System} (h : System.sm 1048576 x) : System.sm 1049600 x := ⟨⟨Nat.le_trans h.1.1 (by decide),fun y0 z0 => (Pack.sm_mono (h.1.2 y0 z0))⟩,(Disk.sm_mono h.2)⟩

theorem FnExactSystemFault_true (a1 : System) (k0 : System.ok a1) (both : (System.sm 1048576 a1) → ∃ r,spec_SystemFault a1 = some r ∧ impl_SystemFault a1 = some r ∧ (True)) : laws_FnExactSystemFault a1 = some true := by
  unfold laws_FnExactSystemFault
  obtain ⟨r1,e1,g1⟩ := szSystem_ok a1 k0 1048576 (by omega) (by omega)
  rw [e1]
  simp only [Option.bind_some]
  by_cases d1 : r1 < 0
  · rw [if_pos (by simpa using d1)]
  rw [if_neg (by simpa using d1)]
  obtain ⟨p1,q1,s_a1⟩ := g1.resolve_left d1
  obtain ⟨r,e1,e2,hr⟩ := both s_a1
  have m_a1 : System.sm 1049600 a1 := (System.sm_mono s_a1)
  simp [e1,e2,toSystem_eq a1 m_a1,eqSystem_self a1 m_a1]

/-! ### Texts as lists of bytes -/
def bl (s : ByteArray) : List Int := s.toList.map (fun b => (b.toNat : Int))

theorem bl_length (s : ByteArray) : (bl s).length = s.size := by
  unfold bl
  rw [List.length_map,ByteArray.toList_eq]
  rfl

theorem bidx_nat {s : ByteArray} {i : Nat} (h : i < (bl s).length) : bidx s (i : Int) = some (bl s)[i] := by
  unfold bidx
  rw [if_pos (by omega)]
  have hs : i < s.size := by rw [bl_length] at h; exact h
  have e : s[(i : Int).toNat]? = some s[i] := by simp [hs]
  rw [e]
  simp only [Option.map_some,bl,List.getElem_map]
  congr 2
  simp only [ByteArray.toList_eq]
  rfl

theorem bl_range {s : ByteArray} : ∀ c ∈ bl s,0 ≤ c ∧ c ≤ 255 := by
  intro c hc
  unfold bl at hc
  obtain ⟨b,_,rfl⟩ := List.mem_map.1 hc
  have := b.toNat_lt
  omega

theorem less_irrefl : ∀ (a : List UInt8),Op.bytesLess a a = false
  | [] => rfl
  | x :: a => by simp [Op.bytesLess,less_irrefl a]

theorem less_trans : ∀ {a b c : List UInt8},Op.bytesLess a b = true → Op.bytesLess b c = true → Op.bytesLess a c = true
  | _,[],_,h,_ => by simp [Op.bytesLess] at h
  | _,_ :: _,[],_,h => by simp [Op.bytesLess] at h
  | [],_ :: _,_ :: _,_,_ => by simp [Op.bytesLess]
  | x :: a,y :: b,z :: c,h1,h2 => by
    simp only [Op.bytesLess,Bool.or_eq_true,decide_eq_true_eq,Bool.and_eq_true,beq_iff_eq] at h1 h2 ⊢
    rcases h1 with h1 | ⟨rfl,h1⟩
    · rcases h2 with h2 | ⟨rfl,h2⟩
      · exact .inl (UInt8.lt_trans h1 h2)
      · exact .inl h1
    · rcases h2 with h2 | ⟨rfl,h2⟩
      · exact .inl h2
      · exact .inr ⟨rfl,less_trans h1 h2⟩

theorem less_tri : ∀ (a b : List UInt8),Op.bytesLess a b = false → a ≠ b → Op.bytesLess b a = true
  | [],[],_,h => absurd rfl h
  | [],_ :: _,h,_ => by simp [Op.bytesLess] at h
  | _ :: _,[],_,_ => by simp [Op.bytesLess]
  | x :: a,y :: b,h,hne => by
    simp only [Op.bytesLess,Bool.or_eq_false_iff,decide_eq_false_iff_not,Bool.and_eq_false_iff,beq_eq_false_iff_ne] at h
    simp only [Op.bytesLess,Bool.or_eq_true,decide_eq_true_eq,Bool.and_eq_true,beq_iff_eq]
    by_cases hxy : x = y
    · subst hxy
      refine .inr ⟨rfl,less_tri a b ?_ (fun e => hne (by rw [e]))⟩
      rcases h.2 with h' | h'
      · exact absurd rfl h'
      · exact h'
    · refine .inl ?_
      have := h.1
      rw [UInt8.lt_iff_toNat_lt] at this ⊢
      have : x.toNat ≠ y.toNat := fun e => hxy (UInt8.toNat_inj.1 e)
      omega

theorem toList_inj {a b : ByteArray} (h : a.toList = b.toList) : a = b := by
  rw [ByteArray.toList_eq,ByteArray.toList_eq] at h
  cases a; cases b
  simp at h
  rw [h]

theorem slt_irrefl (a : ByteArray) : slt a a = false := less_irrefl _

theorem slt_trans {a b c : ByteArray} (h1 : slt a b = true) (h2 : slt b c = true) : slt a c = true := less_trans h1 h2

theorem slt_tri {a b : ByteArray} (h : slt a b = false) (hne : a ≠ b) : slt b a = true := less_tri _ _ h (fun e => hne (toList_inj e))

theorem seq_iff {a b : ByteArray} : seq a b = true ↔ a = b := by
  unfold seq
  simp only [beq_iff_eq]
  exact ⟨toList_inj,fun e => by rw [e]⟩

theorem seq_eq (a b : ByteArray) : seq a b = decide (a = b) := by
  rw [Bool.eq_iff_iff,seq_iff]; simp

theorem in_eq (a b c : Int) : spec_l1In a b c = some (decide (a ≥ b) && decide (a ≤ c)) := by
  unfold spec_l1In
  cases decide (a ≥ b) <;> rfl

/-! ### Decimals -/
theorem bl_append (a b : ByteArray) : bl (a ++ b) = bl a ++ bl b := by
  unfold bl
  rw [ByteArray.toList_eq,ByteArray.toList_eq,ByteArray.toList_eq]
  simp

theorem bl_extract (s : ByteArray) (i j : Nat) : bl (s.extract i j) = ((bl s).drop i).take (j - i) := by
  unfold bl
  rw [ByteArray.toList_eq,ByteArray.toList_eq]
  simp [List.map_drop,List.map_take]

theorem bl_inj {a b : ByteArray} : bl a = bl b ↔ a = b := by
  constructor
  · intro h
    unfold bl at h
    refine toList_inj ?_
    have hinj : ∀ (x y : List UInt8),x.map (fun b => (b.toNat : Int)) = y.map (fun b => (b.toNat : Int)) → x = y := by
      intro x
      induction x with
      | nil => intro y h; cases y <;> simp_all
      | cons u x ih =>
        intro y h
        cases y with
        | nil => simp at h
        | cons v y =>
          simp only [List.map_cons,List.cons.injEq] at h
          rw [ih y h.2]
          have : u.toNat = v.toNat := by omega
          rw [UInt8.toNat_inj.1 this]
    exact hinj _ _ h
  · intro h; rw [h]

theorem seq_bl (a b : ByteArray) : seq a b = decide (bl a = bl b) := by
  rw [seq_eq]
  simp [bl_inj]

theorem bl_b2s1 {c : Int} (h0 : 0 ≤ c) (h1 : c ≤ 255) : bl (b2s [c]) = [c] := by
  unfold bl b2s
  rw [ByteArray.toList_eq]
  simp only [List.foldl_cons,List.foldl_nil]
  show [((UInt8.ofNat c.toNat).toNat : Int)] = [c]
  simp
  omega

theorem wrap_u8 {c : Int} (h0 : 0 ≤ c) (h1 : c ≤ 255) : IntKind.u8.wrap c = c := by
  simp only [IntKind.wrap,IntKind.signed,IntKind.bits]
  simp
  omega

/-- The digits of a number. -/
def decL (n : Nat) : List Int := if n < 10 then [48 + (n : Int)] else decL (n / 10) ++ [48 + ((n % 10 : Nat) : Int)]
termination_by n
decreasing_by omega

theorem decL_small {n : Nat} (h : n < 10) : decL n = [48 + (n : Int)] := by rw [decL,if_pos h]

theorem decL_big {n : Nat} (h : ¬ n < 10) : decL n = decL (n / 10) ++ [48 + ((n % 10 : Nat) : Int)] := by rw [decL,if_neg h]

theorem decL_length : ∀ (k n : Nat),10 ^ k ≤ n → n < 10 ^ (k + 1) → (decL n).length = k + 1
  | 0,n,_,h => by rw [decL_small (by simpa using h)]; rfl
  | k + 1,n,h1,h2 => by
    have hp : 1 ≤ 10 ^ k := Nat.one_le_pow _ _ (by omega)
    rw [Nat.pow_succ] at h1
    rw [Nat.pow_succ] at h2
    rw [decL_big (by omega),List.length_append,decL_length k (n / 10) (by omega) (by omega)]
    rfl

theorem decL_le : ∀ (k n : Nat),n < 10 ^ (k + 1) → (decL n).length ≤ k + 1
  | 0,n,h => by rw [decL_small (by simpa using h)]; simp
  | k + 1,n,h => by
    by_cases hn : n < 10
    · rw [decL_small hn]; simp
    · rw [Nat.pow_succ] at h
      rw [decL_big hn,List.length_append]
      have := decL_le k (n / 10) (by omega)
      simp only [List.length_singleton]
      omega

theorem l1Decimal_r_eq (g : Int → Option ByteArray) (a1 : Int) : spec_l1Decimal_r g a1 = if decide (a1 < 10) then some (b2s [IntKind.u8.wrap (w64 (48 + a1))]) else (g (w64 (a1.tdiv 10))).bind fun x3 => (cat x3 (b2s [IntKind.u8.wrap (w64 (48 + (a1.tmod 10)))])).bind fun x5 => some x5 := rfl

theorem l1Decimal_fuel : ∀ (k f n : Nat),n < 10 ^ (k + 1) → k < f → n ≤ 9000000000000000000 → k ≤ 100 → ∃ s,recF spec_l1Decimal_r f (n : Int) = some s ∧ bl s = decL n
  | k,0,n,_,hf,_,_ => by omega
  | k,f + 1,n,h,hf,hn,hk => by
    rw [show recF spec_l1Decimal_r (f + 1) (n : Int) = spec_l1Decimal_r (recF spec_l1Decimal_r f) (n : Int) from rfl,l1Decimal_r_eq]
    by_cases h1 : n < 10
    · rw [if_pos (by simp; omega),w64_of (by omega) (by omega),wrap_u8 (by omega) (by omega)]
      exact ⟨_,rfl,by rw [bl_b2s1 (by omega) (by omega),decL_small h1]⟩
    · rw [if_neg (by simp; omega)]
      cases k with
      | zero => simp at h; omega
      | succ k =>
        have e1 : w64 ((n : Int).tdiv 10) = ((n / 10 : Nat) : Int) := by
          rw [Int.tdiv_eq_ediv_of_nonneg (by omega),w64_of (by omega) (by omega)]; omega
        have e2 : (n : Int).tmod 10 = ((n % 10 : Nat) : Int) := by
          rw [Int.tmod_eq_emod_of_nonneg (by omega)]; omega
        rw [Nat.pow_succ] at h
        obtain ⟨s,e,hs⟩ := l1Decimal_fuel k f (n / 10) (by omega) (by omega) (by omega) (by omega)
        rw [e1,e2,e,w64_of (by omega) (by omega),wrap_u8 (by omega) (by omega)]
        have hsz : s.size ≤ k + 1 := by
          rw [← bl_length,hs]
          exact decL_le k (n / 10) (by omega)
        simp only [Option.bind_some]
        unfold cat
        rw [if_pos (by have : (b2s [48 + ((n % 10 : Nat) : Int)]).size = 1 := rfl; omega)]
        exact ⟨_,rfl,by rw [bl_append,hs,bl_b2s1 (by omega) (by omega),decL_big h1]⟩

theorem l1Decimal_some (n : Nat) (h : n ≤ 9000000000000000000) : ∃ s,spec_l1Decimal (n : Int) = some s ∧ bl s = decL n :=
  l1Decimal_fuel 18 64 n (by omega) (by omega) h (by omega)

theorem bl_bs (l : List UInt8) : bl (bs l) = l.map (fun b => (b.toNat : Int)) := by
  unfold bl bs
  rw [ByteArray.toList_eq]

theorem cat_of {a b : ByteArray} (h : a.size + b.size ≤ 1099511627776) : cat a b = some (a ++ b) := if_pos h

theorem ba_assoc (a b c : ByteArray) : a ++ b ++ c = a ++ (b ++ c) := bl_inj.1 (by simp only [bl_append,List.append_assoc])

theorem ba_size (a b : ByteArray) : (a ++ b).size = a.size + b.size := by
  rw [← bl_length,bl_append,List.length_append,bl_length,bl_length]

theorem u8_ofNat_toNat {n : Nat} (h : n < 256) : (UInt8.ofNat n).toNat = n := by
  simp [Nat.mod_eq_of_lt h]

theorem decDigits_eq : ∀ (n : Nat),(Lib.decDigits n).map (fun b => (b.toNat : Int)) = decL n := by
  intro n
  induction n using Nat.strongRecOn with
  | ind n ih =>
    rw [Lib.decDigits]
    by_cases h : n < 10
    · rw [dif_pos h,decL_small h]
      simp only [List.map_cons,List.map_nil]
      rw [u8_ofNat_toNat (by omega)]
      simp
    · rw [dif_neg h,decL_big h,List.map_append,ih (n / 10) (by omega)]
      simp only [List.map_cons,List.map_nil]
      rw [u8_ofNat_toNat (by omega)]
      simp

/-- The text of a number. -/
def decS (n : Nat) : ByteArray := ⟨(Lib.decDigits n).toArray⟩

theorem bl_decS (n : Nat) : bl (decS n) = decL n := by
  unfold bl decS
  rw [ByteArray.toList_eq]
  exact decDigits_eq n

theorem l1Decimal_eq (n : Nat) (h : n ≤ 9000000000000000000) : spec_l1Decimal (n : Int) = some (decS n) := by
  obtain ⟨s,e,hs⟩ := l1Decimal_some n h
  rw [e,bl_inj.1 (hs.trans (bl_decS n).symm)]

/-! ### strconv.FormatInt -/
theorem FormatInt_eq (n : Nat) (h : n ≤ 9000000000000000000) : strconv_FormatInt (n : Int) 10 = some (decS n) := by
  unfold strconv_FormatInt
  rw [if_pos (by omega)]
  unfold Lib.itoa decS
  rw [if_neg (by omega)]
  simp

/-! ### Bounds -/
def inB (a b c : Int) : Bool := decide (b ≤ a) && decide (a ≤ c)

theorem l1In_eq (a b c : Int) : spec_l1In a b c = some (inB a b c) := by
  unfold spec_l1In inB
  by_cases h : a ≥ b <;> simp [h]

theorem within_eq (a b c : Int) : impl_within a b c = some (inB a b c) := by
  unfold impl_within inB
  by_cases h : b ≤ a <;> simp [h]

section del
variable {α : Type} (p : α → Bool)
theorem lsub_of {xs : List α} {l h : Nat} (h1 : l ≤ h) (h2 : h ≤ xs.length) : lsub xs (l : Int) (h : Int) = some ((xs.drop l).take (h - l)) := by
  unfold lsub
  rw [if_pos (by omega)]
  rfl
end del

section del
variable {α : Type} (p : α → Bool)
theorem clrw_of {xs : List α} {l n : Nat} {a : α} (h : l + n ≤ xs.length) : clrw xs (l : Int) n a = some (xs.take l ++ List.replicate n a ++ xs.drop (l + n)) := by
  unfold clrw
  rw [if_pos (by omega)]
  simp [ovr]
end del

section del
variable {α : Type} (p : α → Bool)
/-- The first one that is meant; else the end. -/
theorem ixf_loop {R : Type} (a1 : List α) (out : Int → R) {b : Int → Option (Lp Int (Fl R Unit))} (hl : a1.length < 9223372036854775807)
    (hstep : ∀ (i : Nat) (hi : i < a1.length),b (i : Int) = some (if p a1[i] then .done (.ret (out i)) else .go ((i + 1 : Nat) : Int))) (hend : b (a1.length : Int) = some (.done (.nxt ()))) :
    ∃ t,loop b 0 = some t ∧ ((t = .nxt () ∧ ∀ x ∈ a1,p x = false) ∨ ∃ i : Nat,∃ hi : i < a1.length,t = .ret (out i) ∧ p a1[i] = true ∧ ∀ x ∈ a1.take i,p x = false) := by
  refine loop_up (b := b) (fun i s => s = (i : Int) ∧ ∀ x ∈ a1.take i,p x = false) a1.length _ (by
    rintro i s hi ⟨rfl,hn⟩
    have e := hstep i hi
    cases hp : p a1[i]
    · rw [hp] at e
      refine .inl ⟨_,e,rfl,fun x hx => ?_⟩
      rw [List.take_succ_eq_append_getElem hi] at hx
      rcases List.mem_append.1 hx with hx | hx
      · exact hn x hx
      · simp at hx; rw [hx]; exact hp
    · rw [hp] at e
      exact .inr ⟨_,e,.inr ⟨i,hi,rfl,hp,hn⟩⟩) (by
    rintro s ⟨rfl,hn⟩
    rw [List.take_length] at hn
    exact ⟨_,hend,.inl ⟨rfl,hn⟩⟩) a1.length 0 0 (by omega) ⟨rfl,by simp⟩
end del

section del
variable {α : Type} (p : α → Bool)
theorem set_take {xs : List α} {i : Nat} {x : α} (h : i < xs.length) : (xs.set i x).take (i + 1) = xs.take i ++ [x] := by
  rw [List.take_succ_eq_append_getElem (by simpa using h),List.take_set_of_le (Nat.le_refl _)]
  simp
end del

section del
variable {α : Type} (p : α → Bool)
theorem set_drop {xs : List α} {i j : Nat} {x : α} (h : i < j) : (xs.set i x).drop j = xs.drop j := by
  rw [List.drop_set_of_lt h]
end del

section del
variable {α : Type} (p : α → Bool)
/-- The same,where the elements are known to be of the list. -/
theorem del_loop2 (a : List α) {b : (List α × Int × Int) → Option (Lp (List α × Int × Int) (List α × Int))} (hl : a.length < 9223372036854775807)
    (hstep : ∀ (xs : List α) (i j : Nat) (hj : j < xs.length),i ≤ j → xs.length = a.length → xs[j] ∈ a → b (xs,(i : Int),(j : Int)) = some (.go (if p xs[j] then (xs,(i : Int),((j + 1 : Nat) : Int)) else (xs.set i xs[j],((i + 1 : Nat) : Int),((j + 1 : Nat) : Int)))))
    (hend : ∀ (xs : List α) (i : Nat),xs.length = a.length → b (xs,(i : Int),(xs.length : Int)) = some (.done (xs,(i : Int)))) (i0 j0 : Nat) (hij : i0 ≤ j0) (hj0 : j0 ≤ a.length) (h0 : a.take i0 = (a.take j0).filter (fun x => !p x)) :
    ∃ ys : List α,loop b (a,(i0 : Int),(j0 : Int)) = some (ys,((a.filter (fun x => !p x)).length : Int)) ∧ ys.length = a.length ∧ ys.take (a.filter (fun x => !p x)).length = a.filter (fun x => !p x) := by
  obtain ⟨t,e,h⟩ := loop_up (b := b) (fun j s => s.1.length = a.length ∧ s.1.drop j = a.drop j ∧ s.2.2 = (j : Int) ∧ ∃ i : Nat,s.2.1 = (i : Int) ∧ i ≤ j ∧ s.1.take i = (a.take j).filter (fun x => !p x)) a.length
    (fun t => t.1.length = a.length ∧ ∃ i : Nat,t.2 = (i : Int) ∧ i ≤ a.length ∧ t.1.take i = a.filter (fun x => !p x)) (by
    rintro j ⟨xs,i',j'⟩ hj ⟨hxl,hxd,hjj,i,hi,hle,ht⟩
    simp only at hxl hxd hjj hi ht
    subst hjj hi
    have hjx : j < xs.length := by omega
    have hx : xs[j] = a[j] := by
      have := congrArg (fun l => l[0]?) hxd
      simp only [List.getElem?_drop,Nat.add_zero] at this
      rw [List.getElem?_eq_getElem hjx,List.getElem?_eq_getElem hj] at this
      exact Option.some.inj this
    have e := hstep xs i j hjx hle hxl (by rw [hx]; exact List.getElem_mem hj)
    have htk : (a.take (j + 1)).filter (fun x => !p x) = (a.take j).filter (fun x => !p x) ++ (if p a[j] then [] else [a[j]]) := by
      rw [List.take_succ_eq_append_getElem hj,List.filter_append]
      cases h : p a[j] <;> simp [h]
    have hd1 : a.drop (j + 1) = xs.drop (j + 1) := by
      have := congrArg (List.drop 1) hxd
      simpa [List.drop_drop] using this.symm
    rw [hx] at e
    cases hp : p a[j]
    · rw [hp] at e htk
      refine .inl ⟨_,e,by simpa using hxl,?_,rfl,i + 1,rfl,by omega,?_⟩
      · show (xs.set i a[j]).drop (j + 1) = a.drop (j + 1)
        rw [set_drop (by omega),hd1]
      · show (xs.set i a[j]).take (i + 1) = _
        rw [set_take (by omega),htk,ht]
        rfl
    · rw [hp] at e htk
      refine .inl ⟨_,e,hxl,?_,rfl,i,rfl,by omega,?_⟩
      · exact hd1.symm
      · show xs.take i = _
        rw [htk,ht]
        simp) (by
    rintro ⟨xs,i',j'⟩ ⟨hxl,hxd,hjj,i,hi,hle,ht⟩
    simp only at hxl hxd hjj hi ht
    subst hjj hi
    have e := hend xs i hxl
    rw [hxl] at e
    refine ⟨_,e,hxl,i,rfl,hle,?_⟩
    rw [List.take_length] at ht
    exact ht) (a.length - j0) j0 (a,(i0 : Int),(j0 : Int)) (by omega) ⟨rfl,rfl,rfl,i0,rfl,hij,h0⟩
  obtain ⟨ys,i'⟩ := t
  obtain ⟨h1,i,h2,h3,h4⟩ := h
  simp only at h1 h2 h4
  subst h2
  have hlen : i = (a.filter (fun x => !p x)).length := by rw [← h4]; simp; omega
  subst hlen
  exact ⟨ys,e,h1,h4⟩
end del

section del
variable {α : Type} (p : α → Bool)
theorem fin_del {a ys : List α} (zero : α) (h1 : ys.length = a.length) (h2 : ys.take (a.filter (fun x => !p x)).length = a.filter (fun x => !p x)) :
    (lsub ys ((a.filter (fun x => !p x)).length : Int) (ys.length : Int)).bind (fun r => (clrw ys ((a.filter (fun x => !p x)).length : Int) r.length zero).bind fun z => (lsub z 0 ((a.filter (fun x => !p x)).length : Int)).bind fun q => some q) = some (a.filter (fun x => !p x)) := by
  have hle : (a.filter (fun x => !p x)).length ≤ ys.length := by rw [h1]; exact List.length_filter_le _ _
  rw [lsub_of hle (Nat.le_refl _)]
  simp only [Option.bind_some]
  rw [clrw_of (by simp; omega)]
  simp only [Option.bind_some]
  have : lsub (List.take (List.filter (fun x => !p x) a).length ys ++ List.replicate (List.take (ys.length - (List.filter (fun x => !p x) a).length) (List.drop (List.filter (fun x => !p x) a).length ys)).length zero ++
          List.drop ((List.filter (fun x => !p x) a).length + (List.take (ys.length - (List.filter (fun x => !p x) a).length) (List.drop (List.filter (fun x => !p x) a).length ys)).length) ys) ((0 : Nat) : Int) ((a.filter (fun x => !p x)).length : Int) = some (a.filter (fun x => !p x)) := by
    rw [lsub_of (by omega) (by simp; omega)]
    rw [h2]
    simp
  exact (congrArg (fun o => Option.bind o fun q => some q) this)
end del

section del
variable {α : Type} (p : α → Bool)
/-- slices.DeleteFunc,as it is told. -/
theorem del_gen (a : List α) (zero : α) (hl : a.length ≤ 1048577) {b1 : Int → Option (Lp Int (Fl Int Unit))} {b2 : (List α × Int × Int) → Option (Lp (List α × Int × Int) (List α × Int))}
    (h1 : ∀ (i : Nat) (hi : i < a.length),b1 (i : Int) = some (if p a[i] then .done (.ret (i : Int)) else .go ((i + 1 : Nat) : Int))) (h1e : b1 (a.length : Int) = some (.done (.nxt ())))
    (h2 : ∀ (xs : List α) (i j : Nat) (hj : j < xs.length),i ≤ j → xs.length = a.length → xs[j] ∈ a → b2 (xs,(i : Int),(j : Int)) = some (.go (if p xs[j] then (xs,(i : Int),((j + 1 : Nat) : Int)) else (xs.set i xs[j],((i + 1 : Nat) : Int),((j + 1 : Nat) : Int)))))
    (h2e : ∀ (xs : List α) (i : Nat),xs.length = a.length → b2 (xs,(i : Int),(xs.length : Int)) = some (.done (xs,(i : Int)))) :
    ((loop b1 0).bind (Fl.go some fun _ => some (-1))).bind (fun x4 => if x4 == (-1) then (some a) else ((loop b2 (a,x4,w64 (x4 + 1))).bind fun v26 => (lsub v26.1 v26.2 (v26.1.length : Int)).bind fun x27 => (clrw v26.1 v26.2 x27.length zero).bind fun x29 => (lsub x29 0 v26.2).bind fun x31 => some x31)) = some (a.filter (fun x => !p x)) := by
  obtain ⟨t,e,h⟩ := ixf_loop p a (fun i => i) (b := b1) (by omega) h1 h1e
  rw [e]
  rcases h with ⟨rfl,hn⟩ | ⟨i,hi,rfl,hp,hn⟩
  · show some a = _
    congr 1
    exact (List.filter_eq_self.2 (fun x hx => by rw [hn x hx]; rfl)).symm
  · simp only [Option.bind_some,Fl.go]
    rw [if_neg (by simp),w64_nat (by omega)]
    obtain ⟨ys,e2,h3,h4⟩ := del_loop2 p a (b := b2) (by omega) h2 h2e i (i + 1) (by omega) (by omega) (by
      rw [List.take_succ_eq_append_getElem hi,List.filter_append]
      rw [List.filter_eq_self.2 (fun x hx => by rw [hn x hx]; rfl)]
      simp [hp])
    rw [e2]
    simp only [Option.bind_some]
    exact fin_del p zero h3 h4
end del

/-! ### Walks that stop at the first one -/
def scanL {α R : Type} (g : Nat → α → Option R) : Nat → List α → Option R
  | _,[] => none
  | i,x :: xs => match g i x with
    | some r => some r
    | none => scanL g (i + 1) xs

def frs {R : Type} : Option R → Fl R Unit
  | some r => .ret r
  | none => .nxt ()

theorem loop_scanI {α R : Type} (xs : List α) (g : Nat → α → Option R) {b : Int → Option (Lp Int (Fl R Unit))}
    (hstep : ∀ (i : Nat) (hi : i < xs.length),b (i : Int) = some (match g i xs[i] with | some r => .done (.ret r) | none => .go ((i + 1 : Nat) : Int))) (hend : b (xs.length : Int) = some (.done (.nxt ()))) :
    ∀ (k i : Nat),i + k = xs.length → loop b (i : Int) = some (frs (scanL g i (xs.drop i)))
  | 0,i,h => by
    have e : i = xs.length := by omega
    subst e
    rw [loop_eq,hend,List.drop_length]
    rfl
  | k + 1,i,h => by
    have hi : i < xs.length := by omega
    have ih := loop_scanI xs g hstep hend k (i + 1) (by omega)
    rw [loop_eq,hstep i hi,List.drop_eq_getElem_cons hi]
    simp only [scanL]
    cases g i xs[i] with
    | some r => rfl
    | none => exact ih

theorem loop_scan {α R : Type} (xs : List α) (g : Nat → α → Option R) {b : Int → Option (Lp Int (Fl R Unit))}
    (hstep : ∀ (i : Nat) (hi : i < xs.length),b (i : Int) = some (match g i xs[i] with | some r => .done (.ret r) | none => .go ((i + 1 : Nat) : Int))) (hend : b (xs.length : Int) = some (.done (.nxt ()))) :
    loop b 0 = some (frs (scanL g 0 xs)) := by
  have := loop_scanI xs g hstep hend xs.length 0 (by omega)
  simpa using this

theorem frs_go {R T : Type} (o : Option R) (f : R → Option T) (h : Unit → Option T) : (some (frs o)).bind (Fl.go f h) = match o with | some r => f r | none => h () := by
  cases o <;> rfl

/-- The place of the first one. -/
theorem scan_place {α : Type} (p : α → Bool) : ∀ (xs : List α) (i : Nat),((scanL (fun j x => if p x then some (j : Int) else none) i xs).getD (-1) ≥ 0) ↔ xs.any p = true
  | [],i => by simp [scanL]
  | x :: xs,i => by
    simp only [scanL]
    cases h : p x
    · simp only [Bool.false_eq_true,if_false,List.any_cons,h,Bool.false_or]
      exact scan_place p xs (i + 1)
    · simp [h]

theorem scan_bool {α : Type} (p : α → Bool) : ∀ (xs : List α) (i : Nat),(scanL (fun _ x => if p x then some true else none) i xs).getD false = xs.any p
  | [],i => rfl
  | x :: xs,i => by
    simp only [scanL]
    cases h : p x
    · simp only [Bool.false_eq_true,if_false,List.any_cons,h,Bool.false_or]
      exact scan_bool p xs (i + 1)
    · simp [h]

def foldI {α A : Type} (f : Nat → A → α → A) : Nat → List α → A → A
  | _,[],a => a
  | i,x :: xs,a => foldI f (i + 1) xs (f i a x)

theorem loop_foldI {α A : Type} (xs : List α) (f : Nat → A → α → A) (I : Nat → A → Prop) {b : (A × Int) → Option (Lp (A × Int) A)}
    (hstep : ∀ (i : Nat) (a : A) (hi : i < xs.length),I i a → b (a,(i : Int)) = some (.go (f i a xs[i],((i + 1 : Nat) : Int))) ∧ I (i + 1) (f i a xs[i])) (hend : ∀ a,b (a,(xs.length : Int)) = some (.done a)) :
    ∀ (k i : Nat) (a : A),i + k = xs.length → I i a → loop b (a,(i : Int)) = some (foldI f i (xs.drop i) a) ∧ I xs.length (foldI f i (xs.drop i) a)
  | 0,i,a,h,hI => by
    have e : i = xs.length := by omega
    subst e
    rw [loop_eq,hend,List.drop_length]
    exact ⟨rfl,hI⟩
  | k + 1,i,a,h,hI => by
    have hi : i < xs.length := by omega
    obtain ⟨h1,h2⟩ := hstep i a hi hI
    have ih := loop_foldI xs f I hstep hend k (i + 1) _ (by omega) h2
    rw [loop_eq,h1,List.drop_eq_getElem_cons hi]
    exact ih

theorem place_ge {o : Option Int} {b : Bool} (h : (o.getD (-1) ≥ 0) ↔ b = true) : decide (o.getD (-1) ≥ 0) = b := by
  rw [Bool.eq_iff_iff,decide_eq_true_eq]; exact h

/-! ### Paths and disks -/
def nameB (c : Int) : Bool := (decide (c ≥ 97) && decide (c ≤ 122)) || (decide (c ≥ 48) && decide (c ≤ 57)) || c == 95

def pathB (c : Int) : Bool := nameB c || c == 46 || c == 45 || c == 47

theorem spec_l1Name_eq (c : Int) : spec_l1Name c = some (nameB c) := by
  unfold spec_l1Name spec_l1Letter spec_l1Digit nameB
  cases decide (c ≥ 97) <;> cases decide (c ≤ 122) <;> cases decide (c ≥ 48) <;> cases decide (c ≤ 57) <;> rfl

theorem spec_l7Byte_eq (c : Int) : spec_l7Byte c = some (pathB c) := by
  unfold spec_l7Byte pathB
  rw [spec_l1Name_eq]
  cases nameB c <;> cases (c == 46) <;> cases (c == 45) <;> cases (c == 47) <;> rfl

theorem impl_isNameByte_eq (c : Int) : impl_isNameByte c = some (nameB c) := by
  unfold impl_isNameByte nameB
  cases decide (c ≥ 97) <;> cases decide (c ≤ 122) <;> cases decide (c ≥ 48) <;> cases decide (c ≤ 57) <;> rfl

theorem PathFault_eq (s : ByteArray) : impl_PathFault s = spec_PathFault s := by
  unfold impl_PathFault spec_PathFault
  have : impl_PathFault_l1 s = spec_PathFault_l1 s := by
    unfold impl_PathFault_l1 spec_PathFault_l1
    refine loop_congr fun i => ?_
    unfold impl_PathFault_l1b spec_PathFault_l1b
    split
    · congr 1
      funext c
      rw [spec_l7Byte_eq,impl_isNameByte_eq]
      unfold pathB
      simp only [bne]
      cases nameB c <;> cases (c == 46) <;> cases (c == 45) <;> cases (c == 47) <;> rfl
    · rfl
  rw [this]

def pathOk (s : ByteArray) : Prop := 1 ≤ s.size ∧ s.size ≤ 40 ∧ ∀ c ∈ bl s,pathB c = true

theorem PathFault_spec (s : ByteArray) : (pathOk s ∧ spec_PathFault s = some 0) ∨ (¬ pathOk s ∧ spec_PathFault s = some 5) := by
  unfold spec_PathFault
  by_cases h1 : s.size < 1
  · refine .inr ⟨fun h => by have := h.1; omega,?_⟩
    rw [if_pos (by simp; omega)]; rfl
  · rw [if_neg (by simp; omega)]
    simp only [Option.bind_some]
    by_cases h2 : s.size > 40
    · refine .inr ⟨fun h => by have := h.2.1; omega,?_⟩
      rw [if_pos (by simp; omega)]
    · rw [if_neg (by simp; omega)]
      obtain ⟨t,e,h⟩ := loop_up (b := spec_PathFault_l1b s) (fun i j => j = (i : Int) ∧ ∀ k,(hk : k < (bl s).length) → k < i → pathB (bl s)[k] = true) (bl s).length (fun t => match t with | .ret r => r = 5 ∧ ¬ pathOk s | .nxt _ => ∀ c ∈ bl s,pathB c = true) (by
        rintro i j hi ⟨rfl,hp⟩
        have hs := bl_length s
        unfold spec_PathFault_l1b
        rw [if_pos (by simp; omega),bidx_nat hi]
        simp only [Option.bind_some,spec_l7Byte_eq]
        cases hb : pathB (bl s)[i] with
        | false => exact .inr ⟨_,rfl,rfl,fun h => by have := h.2.2 _ (List.getElem_mem hi); rw [hb] at this; cases this⟩
        | true =>
          rw [w64_nat (by omega)]
          refine .inl ⟨_,rfl,rfl,fun k hk hki => ?_⟩
          rcases Nat.lt_or_ge k i with h | h
          · exact hp k hk h
          · have : k = i := by omega
            subst this; exact hb) (by
        rintro j ⟨rfl,hp⟩
        unfold spec_PathFault_l1b
        rw [if_neg (by simp [bl_length])]
        refine ⟨_,rfl,fun c hc => ?_⟩
        obtain ⟨k,hk,rfl⟩ := List.getElem_of_mem hc
        exact hp k hk hk) (bl s).length 0 0 (by omega) ⟨rfl,fun k _ h => by omega⟩
      simp only [spec_PathFault_l1,e,Option.bind_some]
      cases t with
      | ret r =>
        obtain ⟨rfl,h⟩ := h
        exact .inr ⟨h,rfl⟩
      | nxt u => exact .inl ⟨⟨by omega,by omega,h⟩,rfl⟩

theorem PathFault_some (s : ByteArray) : ∃ r,spec_PathFault s = some r ∧ (r = 0 ↔ pathOk s) := by
  rcases PathFault_spec s with ⟨h1,h2⟩ | ⟨h1,h2⟩
  · exact ⟨0,h2,by simp [h1]⟩
  · exact ⟨5,h2,by simp [h1]⟩

def total (fs : List File) : Int := match fs with
  | [] => 0
  | f :: fs => f.Data.length + total fs

theorem total_append : ∀ (l r : List File),total (l ++ r) = total l + total r
  | [],r => by simp [total]
  | f :: l,r => by simp only [List.cons_append,total,total_append l r]; omega

theorem total_nonneg : ∀ (l : List File),0 ≤ total l
  | [] => Int.le_refl _
  | f :: l => by have := total_nonneg l; simp only [total]; omega

theorem total_le : ∀ (l : List File) (C : Int),0 ≤ C → (∀ f ∈ l,(f.Data.length : Int) ≤ C) → total l ≤ l.length * C
  | [],C,_,_ => by simp [total]
  | f :: l,C,hC,h => by
    have h1 := h f (by simp)
    have h2 := total_le l C hC (fun g hg => h g (by simp [hg]))
    simp only [total,List.length_cons,Int.natCast_add,Int.add_mul]
    omega

/-- The bytes of all files. -/
theorem l7Total_eq (d : Disk) (h : d.Files.length ≤ 1048576) (hf : ∀ f ∈ d.Files,f.Data.length ≤ 1048576) : spec_l7Total d = some (total d.Files) := by
  have htot := total_le d.Files 1048576 (by omega) (fun f hm => by have := hf f hm; omega)
  have hb : ((d.Files.length : Int)) * 1048576 ≤ 1048576 * 1048576 := Int.mul_le_mul_of_nonneg_right (by omega) (by omega)
  obtain ⟨t,e,rfl⟩ := loop_up (b := spec_l7Total_l1b d) (fun i s => s = (total (d.Files.take i),(i : Int))) d.Files.length (fun t => t = total d.Files) (by
    rintro i s hi rfl
    unfold spec_l7Total_l1b
    rw [if_pos (by simp; omega)]
    have hsplit : total (d.Files.take (i + 1)) = total (d.Files.take i) + d.Files[i].Data.length := by
      rw [List.take_succ_eq_append_getElem hi,total_append]
      simp [total]
    have hle : total d.Files = total (d.Files.take (i + 1)) + total (d.Files.drop (i + 1)) := by rw [← total_append,List.take_append_drop]
    have h1 := total_nonneg (d.Files.take i)
    have h2 := total_nonneg (d.Files.drop (i + 1))
    simp only [idx_nat hi,Option.bind_some]
    rw [w64_of (by omega) (by omega),w64_nat (by omega)]
    exact .inl ⟨_,rfl,by rw [hsplit]⟩) (by
    rintro s rfl
    unfold spec_l7Total_l1b
    rw [if_neg (by simp)]
    exact ⟨_,rfl,by simp⟩) d.Files.length 0 (0,0) (by omega) (by simp [total])
  simp only [spec_l7Total,spec_l7Total_l1,e,Option.bind_some]

/-- A disk that is right. -/
structure Disk.good (d : Disk) : Prop where
  b0 : 0 ≤ d.Budget
  b1 : d.Budget ≤ 20000
  w0 : 0 ≤ d.Writes
  w1 : d.Writes ≤ 1000000000
  s0 : -1 ≤ d.Stop
  s1 : d.Stop ≤ 1000000000
  len : d.Files.length ≤ 120
  path : ∀ f ∈ d.Files,pathOk f.Path
  data : ∀ f ∈ d.Files,f.Data.length ≤ 4000
  sorted : d.Files.Pairwise (fun f g => slt f.Path g.Path = true)
  room : total d.Files ≤ d.Budget

theorem DiskFault_same (d : Disk) : impl_DiskFault d = spec_DiskFault d := by
  unfold impl_DiskFault spec_DiskFault
  have : impl_DiskFault_l1 d = spec_DiskFault_l1 d := by
    unfold impl_DiskFault_l1 spec_DiskFault_l1
    refine loop_congr fun i => ?_
    unfold impl_DiskFault_l1b spec_DiskFault_l1b
    split
    · cases hx : idx d.Files i with
      | none => rfl
      | some x => simp only [Option.bind_some,PathFault_eq]
    · rfl
  rw [this]
  rfl

theorem sorted_of {xs : List File} (h : ∀ i,(hi : i + 1 < xs.length) → slt xs[i].Path xs[i + 1].Path = true) : xs.Pairwise (fun f g => slt f.Path g.Path = true) := by
  induction xs with
  | nil => exact .nil
  | cons x xs ih =>
    have h' : ∀ i,(hi : i + 1 < xs.length) → slt xs[i].Path xs[i + 1].Path = true := fun i hi => h (i + 1) (by simp; omega)
    have ih' := ih h'
    refine .cons ?_ ih'
    cases xs with
    | nil => simp
    | cons y ys =>
      have hxy : slt x.Path y.Path = true := by simpa using h 0 (by simp)
      intro z hz
      rcases List.mem_cons.1 hz with rfl | hz
      · exact hxy
      · exact slt_trans hxy ((List.pairwise_cons.1 ih').1 z hz)

theorem DiskFault_spec (d : Disk) (h : d.Files.length ≤ 1048576) : ∃ c,spec_DiskFault d = some c ∧ (c = 0 → d.good) := by
  unfold spec_DiskFault
  simp only [in_eq,Option.bind_some]
  by_cases hB : 0 ≤ d.Budget ∧ d.Budget ≤ 20000
  · by_cases hW : 0 ≤ d.Writes ∧ d.Writes ≤ 1000000000
    · by_cases hS : -1 ≤ d.Stop ∧ d.Stop ≤ 1000000000
      · simp [hB.1,hB.2,hW.1,hW.2,hS.1,hS.2]
        by_cases hl : 120 < d.Files.length
        · rw [if_pos (by omega)]
          exact ⟨2,rfl,by simp⟩
        · rw [if_neg (by omega)]
          obtain ⟨t,e,ht⟩ := loop_up (b := spec_DiskFault_l1b d) (fun i s => s = (i : Int) ∧ (∀ j,(hj : j < d.Files.length) → j < i → pathOk d.Files[j].Path ∧ d.Files[j].Data.length ≤ 4000) ∧ ∀ j,(hj : j + 1 < d.Files.length) → j + 1 < i → slt d.Files[j].Path d.Files[j + 1].Path = true) d.Files.length
            (fun t => match t with | .ret r => r ≠ 0 | .nxt _ => (∀ f ∈ d.Files,pathOk f.Path ∧ f.Data.length ≤ 4000) ∧ d.Files.Pairwise (fun f g => slt f.Path g.Path = true)) (by
            rintro i s hi ⟨rfl,h1,h2⟩
            unfold spec_DiskFault_l1b
            rw [if_pos (by simp; omega)]
            obtain ⟨r,hr,hr2⟩ := PathFault_some d.Files[i].Path
            simp only [idx_nat hi,Option.bind_some,hr]
            by_cases hr0 : r = 0
            · subst hr0
              rw [if_neg (by simp)]
              have key : ∃ q,(if decide ((i : Int) > 0) then (idx d.Files (w64 ((i : Int) - 1))).bind fun x39 => some (slt d.Files[i].Path x39.Path || seq d.Files[i].Path x39.Path) else some false) = some q ∧ (q = false → ∀ j,(hj : j + 1 < d.Files.length) → j + 1 < i + 1 → slt d.Files[j].Path d.Files[j + 1].Path = true) := by
                by_cases hp : i = 0
                · subst hp
                  exact ⟨false,by simp,fun _ j hj hji => by omega⟩
                · rw [if_pos (by simp; omega),w64_of (by omega) (by omega),show ((i : Int) - 1) = ((i - 1 : Nat) : Int) by omega,idx_nat (show i - 1 < d.Files.length by omega)]
                  refine ⟨_,rfl,fun hq j hj hji => ?_⟩
                  rcases Nat.lt_or_ge (j + 1) i with hlt | hge
                  · exact h2 j hj hlt
                  · have hj1 : j + 1 = i := by omega
                    subst hj1
                    simp only [Bool.or_eq_false_iff] at hq
                    have hq1 := hq.1
                    have hq2 : d.Files[j + 1].Path ≠ d.Files[j].Path := fun e => by
                      have := hq.2
                      simp only [Nat.add_sub_cancel] at this
                      rw [e] at this
                      simp at this
                    simp only [Nat.add_sub_cancel] at hq1
                    exact slt_tri hq1 hq2
              obtain ⟨q,hq,hq2⟩ := key
              rw [hq]
              simp only [Option.bind_some]
              cases q with
              | true => exact .inr ⟨_,rfl,by simp⟩
              | false =>
                by_cases hd : (d.Files[i].Data.length : Int) > 4000
                · exact .inr ⟨.ret 2,by rw [if_neg (by simp),if_pos (by simpa using hd)],by simp⟩
                · refine .inl ⟨((i + 1 : Nat) : Int),?_,rfl,fun j hj hji => ?_,hq2 rfl⟩
                  · rw [if_neg (by simp),if_neg (by simpa using hd),w64_nat (by omega)]
                  · rcases Nat.lt_or_ge j i with h' | h'
                    · exact h1 j hj h'
                    · have : j = i := by omega
                      subst this
                      exact ⟨hr2.1 rfl,by omega⟩
            · rw [if_pos (by simpa using hr0)]
              exact .inr ⟨_,rfl,hr0⟩) (by
            rintro s ⟨rfl,h1,h2⟩
            unfold spec_DiskFault_l1b
            rw [if_neg (by simp)]
            refine ⟨_,rfl,fun f hf => ?_,sorted_of (fun i hi => h2 i hi hi)⟩
            obtain ⟨j,hj,rfl⟩ := List.getElem_of_mem hf
            exact h1 j hj hj) d.Files.length 0 0 (by omega) ⟨rfl,fun j _ h => by omega,fun j _ h => by omega⟩
          simp only [spec_DiskFault_l1,e,Option.bind_some]
          cases t with
          | ret r => exact ⟨r,rfl,fun h => absurd h ht⟩
          | nxt u =>
            simp only [Fl.go]
            rw [l7Total_eq d h (fun f hf => by have := (ht.1 f hf).2; omega)]
            simp only [Option.bind_some]
            by_cases hr : d.Budget < total d.Files
            · rw [if_pos hr]
              exact ⟨8,rfl,by simp⟩
            · rw [if_neg hr]
              exact ⟨0,rfl,fun _ => ⟨hB.1,hB.2,hW.1,hW.2,hS.1,hS.2,by omega,fun f hf => (ht.1 f hf).1,fun f hf => (ht.1 f hf).2,ht.2,by omega⟩⟩
      · refine ⟨3,?_,by simp⟩
        simp [hB.1,hB.2,hW.1,hW.2]
        intro a b
        exact absurd ⟨a,b⟩ hS
    · refine ⟨3,?_,by simp⟩
      simp [hB.1,hB.2]
      rw [if_pos (by omega)]
      rfl
  · refine ⟨3,?_,by simp⟩
    rw [if_pos (by simp; omega)]
    rfl

/-! ### The paths that begin with something -/
theorem begins_eq (s p : ByteArray) : strings_HasPrefix s p = spec_l7Begins s p := by
  unfold strings_HasPrefix internal_stringslite_HasPrefix spec_l7Begins
  split
  · cases ssub s 0 (p.size : Int) <;> rfl
  · rfl

def begins (s p : ByteArray) : Bool := decide (p.size ≤ s.size) && seq (s.extract 0 p.size) p

theorem l7Begins_eq (s p : ByteArray) : spec_l7Begins s p = some (begins s p) := by
  unfold spec_l7Begins begins
  by_cases h : p.size ≤ s.size
  · rw [if_pos (by simp; omega)]
    unfold ssub
    rw [if_pos (by omega)]
    simp [h]
  · rw [if_neg (by simp; omega)]
    simp [h]

theorem paths_same (d : Disk) (p : ByteArray) : impl_Disk_paths d p = spec_l7Paths d p := by
  have : impl_Disk_paths_l1 d p = spec_l7Paths_l1 d p := by
    unfold impl_Disk_paths_l1 spec_l7Paths_l1
    refine loop_congr fun s => ?_
    unfold impl_Disk_paths_l1b spec_l7Paths_l1b
    split
    · cases h : idx d.Files s.2 with
      | none => rfl
      | some x => simp only [Option.bind_some,begins_eq]
    · rfl
  unfold impl_Disk_paths spec_l7Paths
  rw [this]

def pathsOf (fs : List File) (p : ByteArray) : List ByteArray := (fs.filter (fun f => begins f.Path p)).map (·.Path)

theorem pathsOf_append (l r : List File) (p : ByteArray) : pathsOf (l ++ r) p = pathsOf l p ++ pathsOf r p := by
  simp [pathsOf]

theorem pathsOf_length (l : List File) (p : ByteArray) : (pathsOf l p).length ≤ l.length := by
  simp only [pathsOf,List.length_map]
  exact List.length_filter_le _ _

theorem l7Paths_eq (d : Disk) (p : ByteArray) (h : d.Files.length ≤ 1048576) : spec_l7Paths d p = some (pathsOf d.Files p) := by
  obtain ⟨t,e,rfl⟩ := loop_up (b := spec_l7Paths_l1b d p) (fun i s => s = (pathsOf (d.Files.take i) p,(i : Int))) d.Files.length (fun t => t = pathsOf d.Files p) (by
    rintro i s hi rfl
    unfold spec_l7Paths_l1b
    rw [if_pos (by simp; omega)]
    have hl := pathsOf_length (d.Files.take i) p
    have hl2 : (d.Files.take i).length ≤ i := by simp; omega
    have ha : ∀ x : ByteArray,app 16 (pathsOf (d.Files.take i) p) [x] = some (pathsOf (d.Files.take i) p ++ [x]) := fun x => app_of (by simp; omega) (by simp; omega)
    have hsplit : pathsOf (d.Files.take (i + 1)) p = pathsOf (d.Files.take i) p ++ pathsOf [d.Files[i]] p := by
      rw [List.take_succ_eq_append_getElem hi,pathsOf_append]
    simp only [idx_nat hi,Option.bind_some,l7Begins_eq,ha,w64_nat (show i < 9223372036854775807 by omega)]
    cases hb : begins d.Files[i].Path p with
    | true => exact .inl ⟨_,rfl,by rw [hsplit]; simp [pathsOf,hb]⟩
    | false => exact .inl ⟨_,rfl,by rw [hsplit]; simp [pathsOf,hb]⟩) (by
    rintro s rfl
    unfold spec_l7Paths_l1b
    rw [if_neg (by simp)]
    exact ⟨_,rfl,by simp⟩) d.Files.length 0 ([],0) (by omega) (by simp [pathsOf])
  simp only [spec_l7Paths,spec_l7Paths_l1,e,Option.bind_some]

/-! ### Where a file stands -/
theorem cmp_less : ∀ (a b : List UInt8),(Lib.compareBytes a b < 0 ↔ Op.bytesLess a b = true) ∧ (Lib.compareBytes a b = 0 ↔ a = b)
  | [],[] => by simp [Lib.compareBytes,Op.bytesLess]
  | [],_ :: _ => by simp [Lib.compareBytes,Op.bytesLess]
  | _ :: _,[] => by simp [Lib.compareBytes,Op.bytesLess]
  | x :: a,y :: b => by
    obtain ⟨ih1,ih2⟩ := cmp_less a b
    simp only [Lib.compareBytes,Op.bytesLess]
    by_cases h1 : x < y
    · simp [h1]
      intro e; subst e; exact absurd h1 (by simp [UInt8.lt_irrefl])
    · by_cases h2 : y < x
      · simp [h1,h2]
        have hne : x ≠ y := fun e => by subst e; exact absurd h2 (by simp [UInt8.lt_irrefl])
        simp [hne]
      · have e : x = y := by
          rw [UInt8.lt_iff_toNat_lt] at h1 h2
          exact UInt8.toNat_inj.1 (by omega)
        subst e
        simp [UInt8.lt_irrefl,ih1,ih2]

theorem cmpB_lt (a b : ByteArray) : cmpB a b < 0 ↔ slt a b = true := by
  unfold cmpB slt
  rw [ByteArray.toList_eq,ByteArray.toList_eq]
  exact (cmp_less _ _).1

theorem cmpB_eq (a b : ByteArray) : cmpB a b = 0 ↔ a = b := by
  unfold cmpB
  rw [(cmp_less _ _).2,← ByteArray.toList_eq,← ByteArray.toList_eq]
  exact ⟨toList_inj,fun e => by rw [e]⟩

theorem half_eq {i j : Int} (h0 : 0 ≤ i) (h1 : i ≤ j) (h2 : j ≤ 4611686018427387903) : w64 ((IntKind.u64.wrap (w64 (i + j))).fdiv (2 ^ (min (1 : Int).toNat 64))) = (i + j) / 2 := by
  rw [w64_of (x := i + j) (by omega) (by omega)]
  have e1 : IntKind.u64.wrap (i + j) = i + j := by
    simp only [IntKind.wrap,IntKind.signed,IntKind.bits]
    simp
    omega
  rw [e1]
  have e2 : ((2 : Int) ^ (min (1 : Int).toNat 64)) = 2 := by decide
  rw [e2,Int.fdiv_eq_ediv_of_nonneg _ (by omega)]
  exact w64_of (by omega) (by omega)

theorem place_1_eq (f : File) (p : ByteArray) : impl_Disk_place_1 f p = some (cmpB f.Path p) := rfl

theorem place_some (fs : List File) (p : ByteArray) (h : fs.length ≤ 1048576) :
    ∃ (k : Nat) (b : Bool),slices_BinarySearchFunc_LimplFile_impl_Disk_place_1 fs p = some ((k : Int),b) ∧ k ≤ fs.length ∧ (b = true → ∃ hk : k < fs.length,fs[k].Path = p) ∧
      (fs.Pairwise (fun f g => slt f.Path g.Path = true) → (∀ i,(hi : i < fs.length) → i < k → slt fs[i].Path p = true) ∧ (∀ i,(hi : i < fs.length) → k ≤ i → slt fs[i].Path p = false) ∧ (b = false → ∀ f ∈ fs,f.Path ≠ p)) := by
  obtain ⟨t,e,k,rfl,hk,hs⟩ := loop_meas (b := slices_BinarySearchFunc_LimplFile_impl_Disk_place_1_l1b fs p)
    (fun s => ∃ i j : Nat,s = ((i : Int),(j : Int)) ∧ i ≤ j ∧ j ≤ fs.length ∧ (fs.Pairwise (fun f g => slt f.Path g.Path = true) → (∀ q,(hq : q < fs.length) → q < i → slt fs[q].Path p = true) ∧ (∀ q,(hq : q < fs.length) → j ≤ q → slt fs[q].Path p = false)))
    (fun s => (s.2 - s.1).toNat)
    (fun t => ∃ k : Nat,t = (k : Int) ∧ k ≤ fs.length ∧ (fs.Pairwise (fun f g => slt f.Path g.Path = true) → (∀ q,(hq : q < fs.length) → q < k → slt fs[q].Path p = true) ∧ (∀ q,(hq : q < fs.length) → k ≤ q → slt fs[q].Path p = false))) (by
    rintro s ⟨i,j,rfl,hij,hj,hP⟩
    unfold slices_BinarySearchFunc_LimplFile_impl_Disk_place_1_l1b
    by_cases hlt : i < j
    · left
      rw [if_pos (by simp; omega)]
      simp only
      rw [half_eq (by omega) (by omega) (by omega)]
      have hm : (((i : Int) + (j : Int)) / 2) = (((i + j) / 2 : Nat) : Int) := by omega
      rw [hm]
      have hmj : (i + j) / 2 < j := by omega
      have him : i ≤ (i + j) / 2 := by omega
      generalize (i + j) / 2 = m at *
      have hmn : m < fs.length := by omega
      simp only [idx_nat hmn,Option.bind_some,place_1_eq]
      by_cases hc : cmpB fs[m].Path p < 0
      · rw [if_pos (by simpa using hc),w64_nat (by omega)]
        refine ⟨_,rfl,⟨m + 1,j,rfl,by omega,hj,fun hso => ?_⟩,by simp; omega⟩
        obtain ⟨g1,g2⟩ := hP hso
        refine ⟨fun q hq hqm => ?_,g2⟩
        have hl := (cmpB_lt _ _).1 hc
        rcases Nat.lt_or_ge q m with h' | h'
        · exact slt_trans (List.pairwise_iff_getElem.1 hso q m hq hmn h') hl
        · have : q = m := by omega
          subst this; exact hl
      · rw [if_neg (by simpa using hc)]
        refine ⟨_,rfl,⟨i,m,rfl,by omega,by omega,fun hso => ?_⟩,by simp; omega⟩
        obtain ⟨g1,g2⟩ := hP hso
        refine ⟨g1,fun q hq hmq => ?_⟩
        have hl : slt fs[m].Path p = false := by
          cases h' : slt fs[m].Path p with
          | false => rfl
          | true => exact absurd ((cmpB_lt _ _).2 h') hc
        rcases Nat.lt_or_ge m q with h' | h'
        · cases hq2 : slt fs[q].Path p with
          | false => rfl
          | true =>
            have := slt_trans (List.pairwise_iff_getElem.1 hso m q hmn hq h') hq2
            rw [hl] at this; cases this
        · have : q = m := by omega
          subst this; exact hl
    · right
      rw [if_neg (by simp; omega)]
      have : i = j := by omega
      subst this
      exact ⟨_,rfl,i,rfl,by omega,hP⟩) fs.length (0,(fs.length : Int)) (by simp) ⟨0,fs.length,rfl,by omega,by omega,fun _ => ⟨fun q _ h => by omega,fun q hq h => by omega⟩⟩
  unfold slices_BinarySearchFunc_LimplFile_impl_Disk_place_1
  rw [show slices_BinarySearchFunc_LimplFile_impl_Disk_place_1_l1 fs p (0,(fs.length : Int)) = some (k : Int) from e]
  simp only [Option.bind_some]
  by_cases hkn : k < fs.length
  · rw [if_pos (by simpa using hkn)]
    simp only [idx_nat hkn,Option.bind_some,place_1_eq]
    refine ⟨k,_,rfl,hk,fun hb => ⟨hkn,(cmpB_eq _ _).1 (by simpa using hb)⟩,fun hso => ⟨(hs hso).1,(hs hso).2,fun hb f hf hfp => ?_⟩⟩
    have hne : cmpB fs[k].Path p ≠ 0 := by simpa using hb
    obtain ⟨q,hq,rfl⟩ := List.getElem_of_mem hf
    rcases Nat.lt_trichotomy q k with h' | h' | h'
    · have := (hs hso).1 q hq h'
      rw [hfp,slt_irrefl] at this; cases this
    · subst h'; exact hne ((cmpB_eq _ _).2 hfp)
    · have h1 := List.pairwise_iff_getElem.1 hso k q hkn hq h'
      have h2 := (hs hso).2 k hkn (Nat.le_refl _)
      rw [hfp] at h1
      rw [h1] at h2; cases h2
  · rw [if_neg (by simpa using hkn)]
    refine ⟨k,false,rfl,hk,(fun hb => by cases hb),fun hso => ⟨(hs hso).1,(hs hso).2,fun _ f hf hfp => ?_⟩⟩
    obtain ⟨q,hq,rfl⟩ := List.getElem_of_mem hf
    have := (hs hso).1 q hq (by omega)
    rw [hfp,slt_irrefl] at this; cases this

/-- What the reference finds. -/
theorem l7Find_some (d : Disk) (p : ByteArray) (h : d.Files.length ≤ 1048576) :
    (∃ k : Nat,∃ hk : k < d.Files.length,spec_l7Find d p = some (k : Int) ∧ d.Files[k].Path = p) ∨ (spec_l7Find d p = some (-1) ∧ ∀ f ∈ d.Files,f.Path ≠ p) := by
  obtain ⟨t,e,ht⟩ := loop_up (b := spec_l7Find_l1b d p) (fun i s => s = (i : Int) ∧ ∀ q,(hq : q < d.Files.length) → q < i → d.Files[q].Path ≠ p) d.Files.length
    (fun t => match t with | .ret r => ∃ k : Nat,∃ hk : k < d.Files.length,r = (k : Int) ∧ d.Files[k].Path = p | .nxt _ => ∀ f ∈ d.Files,f.Path ≠ p) (by
    rintro i s hi ⟨rfl,hq⟩
    unfold spec_l7Find_l1b
    rw [if_pos (by simp; omega)]
    simp only [idx_nat hi,Option.bind_some]
    by_cases hp : d.Files[i].Path = p
    · rw [if_pos (seq_iff.2 hp)]
      exact .inr ⟨_,rfl,i,hi,rfl,hp⟩
    · rw [if_neg (fun h' => hp (seq_iff.1 h')),w64_nat (by omega)]
      refine .inl ⟨_,rfl,rfl,fun q hq' hqi => ?_⟩
      rcases Nat.lt_or_ge q i with h' | h'
      · exact hq q hq' h'
      · have : q = i := by omega
        subst this; exact hp) (by
    rintro s ⟨rfl,hq⟩
    unfold spec_l7Find_l1b
    rw [if_neg (by simp)]
    refine ⟨_,rfl,fun f hf => ?_⟩
    obtain ⟨q,hq',rfl⟩ := List.getElem_of_mem hf
    exact hq q hq' hq') d.Files.length 0 0 (by omega) ⟨rfl,fun q _ h => by omega⟩
  unfold spec_l7Find
  rw [show spec_l7Find_l1 d p 0 = some t from e]
  cases t with
  | ret r =>
    obtain ⟨k,hk,rfl,hp⟩ := ht
    exact .inl ⟨k,hk,rfl,hp⟩
  | nxt _ => exact .inr ⟨rfl,ht⟩

theorem sorted_inj {fs : List File} (hs : fs.Pairwise (fun f g => slt f.Path g.Path = true)) {i j : Nat} (hi : i < fs.length) (hj : j < fs.length) (h : fs[i].Path = fs[j].Path) : i = j := by
  rcases Nat.lt_trichotomy i j with h' | h' | h'
  · have := List.pairwise_iff_getElem.1 hs i j hi hj h'
    rw [h,slt_irrefl] at this; cases this
  · exact h'
  · have := List.pairwise_iff_getElem.1 hs j i hj hi h'
    rw [h,slt_irrefl] at this; cases this

/-- Both find the same on a disk that is right. -/
theorem find_both (d : Disk) (p : ByteArray) (hg : d.good) :
    (∃ k : Nat,∃ hk : k < d.Files.length,spec_l7Find d p = some (k : Int) ∧ slices_BinarySearchFunc_LimplFile_impl_Disk_place_1 d.Files p = some ((k : Int),true) ∧ d.Files[k].Path = p) ∨
      (spec_l7Find d p = some (-1) ∧ (∀ f ∈ d.Files,f.Path ≠ p) ∧ ∃ k : Nat,slices_BinarySearchFunc_LimplFile_impl_Disk_place_1 d.Files p = some ((k : Int),false) ∧ k ≤ d.Files.length ∧ (∀ i,(hi : i < d.Files.length) → i < k → slt d.Files[i].Path p = true) ∧ (∀ i,(hi : i < d.Files.length) → k ≤ i → slt d.Files[i].Path p = false)) := by
  have hl : d.Files.length ≤ 1048576 := by have := hg.len; omega
  obtain ⟨k,b,e,hk,h1,h2⟩ := place_some d.Files p hl
  obtain ⟨g1,g2,g3⟩ := h2 hg.sorted
  rcases l7Find_some d p hl with ⟨q,hq,e2,hp⟩ | ⟨e2,hp⟩
  · left
    cases b with
    | false => exact absurd hp (g3 rfl _ (List.getElem_mem hq))
    | true =>
      obtain ⟨hk',hp'⟩ := h1 rfl
      have : q = k := sorted_inj hg.sorted hq hk' (by rw [hp,hp'])
      subst this
      exact ⟨q,hq,e2,e,hp⟩
  · right
    cases b with
    | true =>
      obtain ⟨hk',hp'⟩ := h1 rfl
      exact absurd hp' (hp _ (List.getElem_mem hk'))
    | false => exact ⟨e2,hp,k,e,hk,g1,g2⟩

theorem data_both (d : Disk) (p : ByteArray) (hg : d.good) :
    (∃ k : Nat,∃ hk : k < d.Files.length,spec_l7Find d p = some (k : Int) ∧ impl_Disk_data d p = some (d.Files[k].Data,true) ∧ d.Files[k].Path = p) ∨
      (spec_l7Find d p = some (-1) ∧ impl_Disk_data d p = some ([],false) ∧ ∀ f ∈ d.Files,f.Path ≠ p) := by
  rcases find_both d p hg with ⟨k,hk,e1,e2,hp⟩ | ⟨e1,hp,k,e2,_⟩
  · left
    refine ⟨k,hk,e1,?_,hp⟩
    unfold impl_Disk_data impl_Disk_place
    rw [e2]
    simp only [Option.bind_some,Bool.not_true,Bool.false_eq_true,if_false,idx_nat hk]
  · right
    refine ⟨e1,?_,hp⟩
    unfold impl_Disk_data impl_Disk_place
    rw [e2]
    rfl

/-! ### Numbers in decimal -/
theorem list_rev {P : List Int → Prop} (h0 : P []) (h1 : ∀ l c,P l → P (l ++ [c])) (l : List Int) : P l := by
  have key : ∀ m : List Int,P m.reverse := by
    intro m
    induction m with
    | nil => exact h0
    | cons c m ih => rw [List.reverse_cons]; exact h1 _ c ih
  have := key l.reverse
  rwa [List.reverse_reverse] at this

def digB (c : Int) : Bool := decide (c ≥ 48) && decide (c ≤ 57)

def val (l : List Int) : Int := l.foldl (fun a c => a * 10 + (c - 48)) 0

theorem val_snoc (l : List Int) (c : Int) : val (l ++ [c]) = val l * 10 + (c - 48) := by simp [val]

theorem val_bound {l : List Int} (h : ∀ c ∈ l,digB c = true) : 0 ≤ val l ∧ val l < 10 ^ l.length := by
  revert h
  refine list_rev (P := fun l => (∀ c ∈ l,digB c = true) → 0 ≤ val l ∧ val l < 10 ^ l.length) ?_ ?_ l
  · intro _; simp [val]
  · intro l c ih h
    obtain ⟨h1,h2⟩ := ih (fun x hx => h x (by simp [hx]))
    have hc := h c (by simp)
    simp only [digB,Bool.and_eq_true,decide_eq_true_eq] at hc
    rw [val_snoc,List.length_append,List.length_singleton,Int.pow_succ]
    omega

/-- Digits,so many at most,as a number. -/
def numL (l : List Int) (most : Int) : Option Int := if l.length < 1 ∨ (l.length : Int) > most ∨ ¬ (∀ c ∈ l,digB c = true) then none else some (val l)

theorem pow_le18 {n : Nat} (h : n ≤ 17) : (10 : Int) ^ n ≤ 100000000000000000 := by
  have : (10 : Nat) ^ n ≤ 10 ^ 17 := Nat.pow_le_pow_right (by omega) h
  have e : ((10 ^ n : Nat) : Int) = (10 : Int) ^ n := by simp
  rw [← e]
  omega

theorem spec_l1Digit_eq (c : Int) : spec_l1Digit c = some (digB c) := by
  unfold spec_l1Digit digB
  cases decide (c ≥ 48) <;> rfl

theorem l1Number_eq (s : ByteArray) (most : Int) (hm : most ≤ 17) : spec_l1Number s most = some (match numL (bl s) most with | some n => (n,true) | none => (0,false)) := by
  unfold spec_l1Number numL
  have hl := bl_length s
  by_cases h1 : s.size < 1
  · rw [if_pos (by simp; omega),if_pos (by omega)]
    rfl
  · rw [if_neg (by simp; omega)]
    simp only [Option.bind_some]
    by_cases h2 : (s.size : Int) > most
    · rw [if_pos (by simpa using h2),if_pos (by omega)]
    · rw [if_neg (by simpa using h2)]
      obtain ⟨t,e,ht⟩ := loop_up (b := spec_l1Number_l1b s) (fun i q => q = (val ((bl s).take i),(i : Int)) ∧ ∀ c ∈ (bl s).take i,digB c = true) (bl s).length
        (fun t => match t with | .ret r => r = (0,false) ∧ ¬ ∀ c ∈ bl s,digB c = true | .nxt v => v = val (bl s) ∧ ∀ c ∈ bl s,digB c = true) (by
        rintro i q hi ⟨rfl,hd⟩
        have hb := val_bound hd
        have hlen : ((bl s).take i).length ≤ 17 := by simp; omega
        have hp := pow_le18 hlen
        have hr := bl_range _ (List.getElem_mem hi)
        unfold spec_l1Number_l1b
        rw [if_pos (by simp; omega)]
        simp only [bidx_nat hi,Option.bind_some,spec_l1Digit_eq]
        cases hc : digB (bl s)[i] with
        | false => exact .inr ⟨_,rfl,rfl,fun h => by have := h _ (List.getElem_mem hi); rw [hc] at this; cases this⟩
        | true =>
          have hc' := hc
          simp only [digB,Bool.and_eq_true,decide_eq_true_eq] at hc'
          rw [wrap_u8 (by omega) (by omega),w64_of (x := (bl s)[i] - 48) (by omega) (by omega),w64_of (x := val ((bl s).take i) * 10) (by omega) (by omega),w64_of (by omega) (by omega),w64_nat (by omega)]
          refine .inl ⟨_,rfl,by rw [List.take_succ_eq_append_getElem hi,val_snoc],fun c hcm => ?_⟩
          rw [List.take_succ_eq_append_getElem hi] at hcm
          rcases List.mem_append.1 hcm with h | h
          · exact hd c h
          · simp at h; rw [h]; exact hc) (by
        rintro q ⟨rfl,hd⟩
        unfold spec_l1Number_l1b
        rw [if_neg (by simp; omega)]
        rw [List.take_length] at hd ⊢
        exact ⟨_,rfl,rfl,hd⟩) (bl s).length 0 (0,0) (by omega) ⟨by simp [val],by simp⟩
      unfold spec_l1Number_l1
      rw [e]
      cases t with
      | ret r =>
        obtain ⟨rfl,h⟩ := ht
        rw [if_pos (.inr (.inr h))]
        rfl
      | nxt v =>
        obtain ⟨rfl,h⟩ := ht
        rw [if_neg (fun h' => by rcases h' with h' | h' | h' <;> first | omega | exact h' h)]
        rfl

theorem number_eq (s : ByteArray) (most : Int) (hm : most ≤ 17) : impl_number s most = some (match numL (bl s) most with | some n => n | none => -1) := by
  unfold impl_number numL
  have hl := bl_length s
  have he : seq s (bs []) = decide (s.size < 1) := by
    rw [seq_bl,bl_bs,List.map_nil]
    rw [Bool.eq_iff_iff]
    simp only [decide_eq_true_eq]
    constructor
    · intro h; rw [h] at hl; simp at hl; omega
    · intro h; exact List.eq_nil_of_length_eq_zero (by omega)
  rw [he]
  by_cases h1 : s.size < 1
  · rw [if_pos (by simpa using h1),if_pos (by omega)]
    rfl
  · rw [if_neg (by simpa using h1)]
    simp only [Option.bind_some]
    by_cases h2 : (s.size : Int) > most
    · rw [if_pos (by simpa using h2),if_pos (by omega)]
    · rw [if_neg (by simpa using h2)]
      obtain ⟨t,e,ht⟩ := loop_up (b := impl_number_l1b s) (fun i q => q = (val ((bl s).take i),(i : Int)) ∧ ∀ c ∈ (bl s).take i,digB c = true) (bl s).length
        (fun t => match t with | .ret r => r = -1 ∧ ¬ ∀ c ∈ bl s,digB c = true | .nxt v => v = val (bl s) ∧ ∀ c ∈ bl s,digB c = true) (by
        rintro i q hi ⟨rfl,hd⟩
        have hb := val_bound hd
        have hlen : ((bl s).take i).length ≤ 17 := by simp; omega
        have hp := pow_le18 hlen
        have hr := bl_range _ (List.getElem_mem hi)
        unfold impl_number_l1b
        rw [if_pos (by simp; omega)]
        simp only [bidx_nat hi,Option.bind_some]
        have hq : (if decide ((bl s)[i] < 48) = true then some true else some (decide ((bl s)[i] > 57))) = some (!digB (bl s)[i]) := by
          unfold digB
          by_cases a : (bl s)[i] < 48
          · have b : ¬ ((bl s)[i] ≥ 48) := by omega
            simp [a,b]
          · have b : (bl s)[i] ≥ 48 := by omega
            by_cases c : (bl s)[i] > 57
            · have d : ¬ ((bl s)[i] ≤ 57) := by omega
              simp [a,b,c,d]
            · have d : (bl s)[i] ≤ 57 := by omega
              simp [a,b,c,d]
        rw [hq]
        simp only [Option.bind_some]
        cases hc : digB (bl s)[i] with
        | false => exact .inr ⟨_,rfl,rfl,fun h => by have := h _ (List.getElem_mem hi); rw [hc] at this; cases this⟩
        | true =>
          have hc' := hc
          simp only [digB,Bool.and_eq_true,decide_eq_true_eq] at hc'
          rw [wrap_u8 (by omega) (by omega),w64_of (x := (bl s)[i] - 48) (by omega) (by omega),w64_of (x := 10 * val ((bl s).take i)) (by omega) (by omega),w64_of (by omega) (by omega),w64_nat (by omega)]
          refine .inl ⟨_,rfl,by rw [List.take_succ_eq_append_getElem hi,val_snoc,Int.mul_comm],fun c hcm => ?_⟩
          rw [List.take_succ_eq_append_getElem hi] at hcm
          rcases List.mem_append.1 hcm with h | h
          · exact hd c h
          · simp at h; rw [h]; exact hc) (by
        rintro q ⟨rfl,hd⟩
        unfold impl_number_l1b
        rw [if_neg (by simp; omega)]
        rw [List.take_length] at hd ⊢
        exact ⟨_,rfl,rfl,hd⟩) (bl s).length 0 (0,0) (by omega) ⟨by simp [val],by simp⟩
      unfold impl_number_l1
      rw [e]
      cases t with
      | ret r =>
        obtain ⟨rfl,h⟩ := ht
        rw [if_pos (.inr (.inr h))]
        rfl
      | nxt v =>
        obtain ⟨rfl,h⟩ := ht
        rw [if_neg (fun h' => by rcases h' with h' | h' | h' <;> first | omega | exact h' h)]
        rfl

/-- The digits of a number. -/
theorem decL_val {l : List Int} (h : ∀ c ∈ l,digB c = true) : decL (10 ^ l.length + (val l).toNat) = 49 :: l := by
  revert h
  refine list_rev (P := fun l => (∀ c ∈ l,digB c = true) → decL (10 ^ l.length + (val l).toNat) = 49 :: l) ?_ ?_ l
  · intro _; rw [decL_small (by decide)]; rfl
  · intro l c ih h
    have hl : ∀ c ∈ l,digB c = true := fun x hx => h x (by simp [hx])
    have hb := val_bound hl
    have hc := h c (by simp)
    simp only [digB,Bool.and_eq_true,decide_eq_true_eq] at hc
    have e1 : (val (l ++ [c])).toNat = (val l).toNat * 10 + (c - 48).toNat := by rw [val_snoc]; omega
    have e2 : 10 ^ (l ++ [c]).length = 10 ^ l.length * 10 := by rw [List.length_append,List.length_singleton,Nat.pow_succ]
    have hp : 1 ≤ 10 ^ l.length := Nat.one_le_pow _ _ (by omega)
    rw [e1,e2,decL_big (by omega)]
    have e3 : (10 ^ l.length * 10 + ((val l).toNat * 10 + (c - 48).toNat)) / 10 = 10 ^ l.length + (val l).toNat := by omega
    have e4 : (10 ^ l.length * 10 + ((val l).toNat * 10 + (c - 48).toNat)) % 10 = (c - 48).toNat := by omega
    rw [e3,e4,ih hl,List.cons_append]
    congr 3
    omega

/-! ### Generations -/
def genP : List Int := [103,101,110,47]

theorem bl_gen : bl (bs [103,101,110,47]) = genP := bl_bs _

theorem GenPath_eq (n : Int) : ∃ s,spec_GenPath n = some s ∧ bl s = (if 1 ≤ n ∧ n ≤ 999999 then genP ++ (decL (1000000 + n.toNat)).drop 1 else []) := by
  unfold spec_GenPath
  rw [in_eq]
  simp only [Option.bind_some]
  by_cases h : 1 ≤ n ∧ n ≤ 999999
  · rw [if_pos h]
    have hb : (decide (n ≥ 1) && decide (n ≤ 999999)) = true := by simp; omega
    rw [hb]
    rw [w64_of (by omega) (by omega),show (1000000 : Int) + n = ((1000000 + n.toNat : Nat) : Int) by omega]
    obtain ⟨s,e,hs⟩ := l1Decimal_some (1000000 + n.toNat) (by omega)
    have hlen : (decL (1000000 + n.toNat)).length = 7 := decL_length 6 _ (by omega) (by omega)
    have hsz : s.size = 7 := by rw [← bl_length,hs,hlen]
    rw [e]
    simp only [Bool.not_true,Bool.false_eq_true,if_false,Option.bind_some]
    unfold ssub
    rw [if_pos (by omega)]
    simp only [Option.bind_some]
    have hx : (s.extract (1 : Int).toNat ((s.size : Int)).toNat).size = 6 := by
      rw [← bl_length,bl_extract,List.length_take,List.length_drop,hs,hlen,hsz]
      rfl
    unfold cat
    rw [if_pos (by have : (bs [103,101,110,47]).size = 4 := rfl; omega)]
    refine ⟨_,rfl,?_⟩
    rw [bl_append,bl_gen,bl_extract,hs]
    congr 1
    rw [List.take_of_length_le (by rw [List.length_drop,hlen,hsz]; decide)]
    rfl
  · rw [if_neg h]
    have hb : (decide (n ≥ 1) && decide (n ≤ 999999)) = false := by
      simp only [Bool.and_eq_false_iff,decide_eq_false_iff_not]; omega
    rw [hb]
    exact ⟨_,rfl,bl_bs _⟩

/-- The generation that a path names. -/
def genOf (l : List Int) : Option Int := match numL (l.drop 4) 6 with
  | some n => if n ≥ 1 ∧ l.length = 10 then some n else none
  | none => none

/-- The reference asks whether the path is the generation's own. -/
theorem gen_iff {l : List Int} (hp : l.take 4 = genP) (hl : 4 ≤ l.length) {n : Int} (h : numL (l.drop 4) 6 = some n) :
    (if 1 ≤ n ∧ n ≤ 999999 then genP ++ (decL (1000000 + n.toNat)).drop 1 else []) = l ↔ (n ≥ 1 ∧ l.length = 10) := by
  unfold numL at h
  split at h
  · cases h
  · rename_i hc
    cases h
    have hc1 : 1 ≤ (l.drop 4).length := by omega
    have hc2 : (l.drop 4).length ≤ 6 := by omega
    have hd : ∀ c ∈ l.drop 4,digB c = true := Classical.byContradiction fun h => hc (.inr (.inr h))
    have hb := val_bound hd
    have hle : val (l.drop 4) ≤ 999999 := by
      have : (10 : Nat) ^ (l.drop 4).length ≤ 10 ^ 6 := Nat.pow_le_pow_right (by omega) hc2
      have e : (((10 : Nat) ^ (l.drop 4).length : Nat) : Int) = (10 : Int) ^ (l.drop 4).length := by simp
      omega
    have hll : l.length = 4 + (l.drop 4).length := by simp; omega
    by_cases hn : 1 ≤ val (l.drop 4)
    · rw [if_pos ⟨hn,hle⟩]
      constructor
      · intro e
        refine ⟨hn,?_⟩
        rw [← e,List.length_append,List.length_drop,decL_length 6 _ (by omega) (by omega)]
        rfl
      · rintro ⟨_,h10⟩
        have h6 : (l.drop 4).length = 6 := by omega
        have key := decL_val hd
        rw [h6,show (10 : Nat) ^ 6 = 1000000 from rfl] at key
        rw [key,← hp]
        simp
    · rw [if_neg (by omega)]
      constructor
      · intro e
        rw [← e] at hll
        simp at hll
      · rintro ⟨h',_⟩; omega

theorem begins_bl {s p : ByteArray} (h : begins s p = true) : (bl s).take (bl p).length = bl p ∧ (bl p).length ≤ (bl s).length := by
  unfold begins at h
  simp only [Bool.and_eq_true,decide_eq_true_eq] at h
  have := seq_iff.1 h.2
  refine ⟨?_,by rw [bl_length,bl_length]; exact h.1⟩
  have e := congrArg bl this
  rw [bl_extract] at e
  simpa [bl_length] using e

theorem pathsOf_mem {fs : List File} {p : ByteArray} : ∀ s ∈ pathsOf fs p,begins s p = true := by
  intro s hs
  unfold pathsOf at hs
  obtain ⟨f,hf,rfl⟩ := List.mem_map.1 hs
  exact (List.mem_filter.1 hf).2

def gensL (fs : List File) : List Int := (pathsOf fs (bs [103,101,110,47])).filterMap (fun p => genOf (bl p))

theorem gens_prefix {ps : List ByteArray} (h : ∀ s ∈ ps,begins s (bs [103,101,110,47]) = true) {i : Nat} (hi : i < ps.length) : (bl ps[i]).take 4 = genP ∧ 4 ≤ (bl ps[i]).length := by
  have := begins_bl (h _ (List.getElem_mem hi))
  rw [bl_gen] at this
  exact this

theorem ssub_tail {s : ByteArray} {k : Nat} (h : k ≤ s.size) : ∃ t,ssub s (k : Int) (s.size : Int) = some t ∧ bl t = (bl s).drop k := by
  unfold ssub
  rw [if_pos (by omega)]
  refine ⟨_,rfl,?_⟩
  rw [bl_extract]
  simp only [Int.toNat_natCast]
  rw [List.take_of_length_le (by rw [List.length_drop,bl_length]; exact Nat.le_refl _)]

theorem fm_len {f : ByteArray → Option Int} : ∀ (l : List ByteArray),(l.filterMap f).length ≤ l.length := fun l => List.length_filterMap_le f l

theorem l8Gens_eq (d : Disk) (h : d.Files.length ≤ 1048576) : spec_l8Gens d = some (gensL d.Files) := by
  unfold spec_l8Gens gensL
  rw [l7Paths_eq d _ h]
  simp only [Option.bind_some]
  have hm := pathsOf_mem (fs := d.Files) (p := bs [103,101,110,47])
  have hlen := pathsOf_length d.Files (bs [103,101,110,47])
  generalize pathsOf d.Files (bs [103,101,110,47]) = ps at *
  obtain ⟨t,e,rfl⟩ := loop_up (b := spec_l8Gens_l1b d ps) (fun i s => s = ((ps.take i).filterMap (fun p => genOf (bl p)),(i : Int))) ps.length (fun t => t = ps.filterMap (fun p => genOf (bl p))) (by
    rintro i s hi rfl
    obtain ⟨hp,h4⟩ := gens_prefix hm hi
    have hsz : 4 ≤ ps[i].size := by rw [← bl_length]; exact h4
    obtain ⟨u,hu,hub⟩ := ssub_tail (s := ps[i]) (k := 4) hsz
    have hu' : ssub ps[i] 4 (ps[i].size : Int) = some u := hu
    have hfl := fm_len (f := fun p => genOf (bl p)) (ps.take i)
    have hil : (ps.take i).length ≤ i := by simp; omega
    have ha : ∀ x : Int,app 8 ((ps.take i).filterMap (fun p => genOf (bl p))) [x] = some ((ps.take i).filterMap (fun p => genOf (bl p)) ++ [x]) := fun x => app_of (by simp; omega) (by simp; omega)
    have hsplit : (ps.take (i + 1)).filterMap (fun p => genOf (bl p)) = (ps.take i).filterMap (fun p => genOf (bl p)) ++ [ps[i]].filterMap (fun p => genOf (bl p)) := by
      rw [List.take_succ_eq_append_getElem hi,List.filterMap_append]
    unfold spec_l8Gens_l1b
    rw [if_pos (by simp; omega)]
    simp only [idx_nat hi,Option.bind_some,hu',l1Number_eq u 6 (by omega),hub,w64_nat (show i < 9223372036854775807 by omega)]
    left
    cases hn : numL ((bl ps[i]).drop 4) 6 with
    | none =>
      refine ⟨_,rfl,?_⟩
      rw [hsplit]
      simp [genOf,hn]
    | some n =>
      obtain ⟨g,hg,hgb⟩ := GenPath_eq n
      have hiff := gen_iff hp h4 hn
      rw [← hgb] at hiff
      simp only [if_true,hg,Option.bind_some]
      rw [seq_bl]
      by_cases hc : n ≥ 1 ∧ (bl ps[i]).length = 10
      · rw [decide_eq_true (hiff.2 hc)]
        simp only [Option.bind_some,if_true,ha]
        refine ⟨_,rfl,?_⟩
        rw [hsplit]
        simp [genOf,hn,hc]
      · rw [decide_eq_false (fun e => hc (hiff.1 e))]
        refine ⟨_,rfl,?_⟩
        rw [hsplit]
        simp only [List.filterMap_cons,genOf,hn,if_neg hc,List.filterMap_nil,List.append_nil]) (by
    rintro s rfl
    unfold spec_l8Gens_l1b
    rw [if_neg (by simp)]
    exact ⟨_,rfl,by simp⟩) ps.length 0 ([],0) (by omega) (by simp)
  simp only [spec_l8Gens_l1,e,Option.bind_some]

theorem gens_eq (d : Disk) (h : d.Files.length ≤ 1048576) : impl_Disk_gens d = some (gensL d.Files) := by
  unfold impl_Disk_gens gensL
  rw [paths_same,l7Paths_eq d _ h]
  simp only [Option.bind_some]
  have hm := pathsOf_mem (fs := d.Files) (p := bs [103,101,110,47])
  have hlen := pathsOf_length d.Files (bs [103,101,110,47])
  generalize pathsOf d.Files (bs [103,101,110,47]) = ps at *
  obtain ⟨t,e,rfl⟩ := loop_up (b := impl_Disk_gens_l1b ps) (fun i s => s = ((ps.take i).filterMap (fun p => genOf (bl p)),(i : Int))) ps.length (fun t => t = ps.filterMap (fun p => genOf (bl p))) (by
    rintro i s hi rfl
    obtain ⟨hp,h4⟩ := gens_prefix hm hi
    have hsz : 4 ≤ ps[i].size := by rw [← bl_length]; exact h4
    obtain ⟨u,hu,hub⟩ := ssub_tail (s := ps[i]) (k := 4) hsz
    have hu' : ssub ps[i] 4 (ps[i].size : Int) = some u := hu
    have hfl := fm_len (f := fun p => genOf (bl p)) (ps.take i)
    have hil : (ps.take i).length ≤ i := by simp; omega
    have ha : ∀ x : Int,app 8 ((ps.take i).filterMap (fun p => genOf (bl p))) [x] = some ((ps.take i).filterMap (fun p => genOf (bl p)) ++ [x]) := fun x => app_of (by simp; omega) (by simp; omega)
    have hsplit : (ps.take (i + 1)).filterMap (fun p => genOf (bl p)) = (ps.take i).filterMap (fun p => genOf (bl p)) ++ [ps[i]].filterMap (fun p => genOf (bl p)) := by
      rw [List.take_succ_eq_append_getElem hi,List.filterMap_append]
    unfold impl_Disk_gens_l1b
    rw [if_pos (by simp; omega)]
    simp only [idx_nat hi,Option.bind_some,hu',number_eq u 6 (by omega),hub,w64_nat (show i < 9223372036854775807 by omega)]
    left
    cases hn : numL ((bl ps[i]).drop 4) 6 with
    | none =>
      refine ⟨_,rfl,?_⟩
      rw [hsplit]
      simp [genOf,hn]
    | some n =>
      have hbl : ((ps[i].size : Int) == 10) = decide ((bl ps[i]).length = 10) := by
        rw [bl_length,Bool.eq_iff_iff]; simp; omega
      simp only [hbl]
      by_cases h1 : n ≥ 1
      · rw [if_pos (by simpa using h1)]
        by_cases h2 : (bl ps[i]).length = 10
        · rw [decide_eq_true h2]
          simp only [Option.bind_some,if_true,ha]
          refine ⟨_,rfl,?_⟩
          rw [hsplit]
          simp [genOf,hn,h1,h2]
        · rw [decide_eq_false h2]
          refine ⟨_,rfl,?_⟩
          rw [hsplit]
          simp [genOf,hn,h2]
      · rw [if_neg (by simpa using h1)]
        refine ⟨_,rfl,?_⟩
        rw [hsplit]
        simp only [List.filterMap_cons,genOf,hn,if_neg (fun h' : n ≥ 1 ∧ (bl ps[i]).length = 10 => h1 h'.1),List.filterMap_nil,List.append_nil]) (by
    rintro s rfl
    unfold impl_Disk_gens_l1b
    rw [if_neg (by simp)]
    exact ⟨_,rfl,by simp⟩) ps.length 0 ([],0) (by omega) (by simp)
  simp only [impl_Disk_gens_l1,e,Option.bind_some]

theorem gensL_length (fs : List File) : (gensL fs).length ≤ fs.length := by
  unfold gensL
  have h1 := fm_len (f := fun p => genOf (bl p)) (pathsOf fs (bs [103,101,110,47]))
  have h2 := pathsOf_length fs (bs [103,101,110,47])
  omega

theorem genOf_spec {l : List Int} {n : Int} (h : genOf l = some n) : l.length = 10 ∧ (∀ c ∈ l.drop 4,digB c = true) ∧ n = val (l.drop 4) ∧ 1 ≤ n ∧ n ≤ 999999 := by
  unfold genOf at h
  cases hn : numL (l.drop 4) 6 with
  | none => rw [hn] at h; cases h
  | some m =>
    rw [hn] at h
    simp only at h
    split at h
    · rename_i hc
      cases h
      unfold numL at hn
      split at hn
      · cases hn
      · rename_i hc2
        cases hn
        have hd : ∀ c ∈ l.drop 4,digB c = true := Classical.byContradiction fun h => hc2 (.inr (.inr h))
        have hb := val_bound hd
        have h6 : (l.drop 4).length = 6 := by rw [List.length_drop,hc.2]
        rw [h6] at hb
        exact ⟨hc.2,hd,rfl,hc.1,by omega⟩
    · cases h

theorem gensL_mem {fs : List File} {n : Int} (h : n ∈ gensL fs) : 1 ≤ n ∧ n ≤ 999999 := by
  unfold gensL at h
  obtain ⟨p,_,hp⟩ := List.mem_filterMap.1 h
  exact (genOf_spec hp).2.2.2

theorem bl_b2s {l : List Int} (h : ∀ c ∈ l,0 ≤ c ∧ c ≤ 255) : bl (b2s l) = l := by
  refine (list_rev (P := fun l => (∀ c ∈ l,0 ≤ c ∧ c ≤ 255) → bl (b2s l) = l) ?_ ?_ l) h
  · intro _; exact bl_bs []
  · intro l c ih h
    have e : b2s (l ++ [c]) = b2s l ++ b2s [c] := by
      unfold b2s
      rw [List.foldl_append]
      generalize List.foldl (fun r n => ByteArray.push r (UInt8.ofNat n.toNat)) ByteArray.empty l = x
      simp only [List.foldl_cons,List.foldl_nil]
      generalize UInt8.ofNat c.toNat = u
      apply toList_inj
      rw [ByteArray.toList_eq,ByteArray.toList_eq]
      simp
    rw [e,bl_append,ih (fun x hx => h x (by simp [hx])),bl_b2s1 (h c (by simp)).1 (h c (by simp)).2]

theorem l1Has_eq (l : List Int) (v : Int) (h : l.length ≤ 1048576) : spec_l1Has l v = some (decide (v ∈ l)) := by
  obtain ⟨t,e,ht⟩ := loop_up (b := spec_l1Has_l1b l v) (fun i s => s = (i : Int) ∧ v ∉ l.take i) l.length (fun t => match t with | .ret r => r = true ∧ v ∈ l | .nxt _ => v ∉ l) (by
    rintro i s hi ⟨rfl,hv⟩
    unfold spec_l1Has_l1b
    rw [if_pos (by simp; omega)]
    simp only [idx_nat hi,Option.bind_some]
    by_cases hc : l[i] = v
    · rw [if_pos (by simpa using hc)]
      exact .inr ⟨_,rfl,rfl,hc ▸ List.getElem_mem hi⟩
    · rw [if_neg (by simpa using hc),w64_nat (by omega)]
      refine .inl ⟨_,rfl,rfl,?_⟩
      rw [List.take_succ_eq_append_getElem hi]
      simp only [List.mem_append,List.mem_singleton,not_or]
      exact ⟨hv,fun e => hc e.symm⟩) (by
    rintro s ⟨rfl,hv⟩
    unfold spec_l1Has_l1b
    rw [if_neg (by simp)]
    rw [List.take_length] at hv
    exact ⟨_,rfl,hv⟩) l.length 0 0 (by omega) ⟨rfl,by simp⟩
  unfold spec_l1Has
  rw [show spec_l1Has_l1 l v 0 = some t from e]
  cases t with
  | ret r => obtain ⟨rfl,hm⟩ := ht; simp [Fl.go,hm]
  | nxt _ => simp only [Fl.go,Option.bind_some]; rw [decide_eq_false ht]

theorem Index_eq (l : List Int) (v : Int) (h : l.length ≤ 1048576) : slices_Contains_Lint64 l v = some (decide (v ∈ l)) := by
  obtain ⟨t,e,ht⟩ := loop_up (b := slices_Index_Lint64_l1b l v) (fun i s => s = (i : Int) ∧ v ∉ l.take i) l.length (fun t => match t with | .ret r => 0 ≤ r ∧ v ∈ l | .nxt _ => v ∉ l) (by
    rintro i s hi ⟨rfl,hv⟩
    unfold slices_Index_Lint64_l1b
    rw [if_pos (by simp; omega)]
    simp only [idx_nat hi,Option.bind_some]
    by_cases hc : v = l[i]
    · rw [if_pos (by simpa using hc)]
      exact .inr ⟨_,rfl,by omega,hc ▸ List.getElem_mem hi⟩
    · rw [if_neg (by simpa using hc),w64_nat (by omega)]
      refine .inl ⟨_,rfl,rfl,?_⟩
      rw [List.take_succ_eq_append_getElem hi]
      simp only [List.mem_append,List.mem_singleton,not_or]
      exact ⟨hv,hc⟩) (by
    rintro s ⟨rfl,hv⟩
    unfold slices_Index_Lint64_l1b
    rw [if_neg (by simp)]
    rw [List.take_length] at hv
    exact ⟨_,rfl,hv⟩) l.length 0 0 (by omega) ⟨rfl,by simp⟩
  unfold slices_Contains_Lint64 slices_Index_Lint64
  rw [show slices_Index_Lint64_l1 l v 0 = some t from e]
  cases t with
  | ret r => obtain ⟨h0,hm⟩ := ht; simp [Fl.go,hm,h0]
  | nxt _ => simp only [Fl.go,Option.bind_some]; rw [decide_eq_false ht]; rfl

/-- The current generation; none: there is none. -/
def curOf (d : Disk) : Option Int := match d.Files.find? (fun f => decide (f.Path = bs [99,117,114])) with
  | none => none
  | some f => match numL f.Data 6 with
    | none => none
    | some n => if n ∈ gensL d.Files then some n else none

theorem find_of {fs : List File} {p : ByteArray} {k : Nat} (hs : fs.Pairwise (fun f g => slt f.Path g.Path = true)) (hk : k < fs.length) (hp : fs[k].Path = p) : fs.find? (fun f => decide (f.Path = p)) = some fs[k] := by
  rw [List.find?_eq_some_iff_getElem]
  refine ⟨by simp [hp],k,hk,rfl,fun j hj => ?_⟩
  simp only [Bool.not_eq_eq_eq_not,Bool.not_true,decide_eq_false_iff_not]
  intro e
  have := sorted_inj hs (by omega) hk (e.trans hp.symm)
  omega

theorem find_none {fs : List File} {p : ByteArray} (h : ∀ f ∈ fs,f.Path ≠ p) : fs.find? (fun f => decide (f.Path = p)) = none := by
  rw [List.find?_eq_none]
  intro f hf
  simpa using h f hf

theorem current_both (d : Disk) (hg : d.good) (hb : ∀ f ∈ d.Files,∀ c ∈ f.Data,0 ≤ c ∧ c ≤ 255) :
    spec_l8Current d = some ((curOf d).getD 0) ∧ impl_Disk_current d = some ((curOf d).getD 0,match curOf d with | some _ => 0 | none => 4) := by
  have hl : d.Files.length ≤ 1048576 := by have := hg.len; omega
  have hgl := gensL_length d.Files
  unfold spec_l8Current impl_Disk_current
  rcases data_both d (bs [99,117,114]) hg with ⟨k,hk,e1,e2,hp⟩ | ⟨e1,e2,hp⟩
  · have hf := find_of hg.sorted hk hp
    have hbk := bl_b2s (hb _ (List.getElem_mem hk))
    have hn : ¬ ((k : Int) < 0) := by omega
    rw [e1,e2,l8Gens_eq d hl,gens_eq d hl]
    simp only [Option.bind_some,idx_nat hk,l1Number_eq _ 6 (by omega),number_eq _ 6 (by omega),hbk,decide_eq_false hn,Bool.false_eq_true,if_false]
    unfold curOf
    rw [hf]
    simp only
    cases hnum : numL d.Files[k].Data 6 with
    | none =>
      have hneg : ¬ ((-1 : Int) ∈ gensL d.Files) := fun h => by have := gensL_mem h; omega
      simp [Index_eq _ _ (show (gensL d.Files).length ≤ 1048576 by omega),hneg]
    | some n =>
      simp only [Index_eq _ _ (show (gensL d.Files).length ≤ 1048576 by omega),l1Has_eq _ _ (show (gensL d.Files).length ≤ 1048576 by omega)]
      by_cases hm : n ∈ gensL d.Files
      · simp [hm]
      · simp [hm]
  · have hf := find_none hp
    rw [e1,e2]
    simp only [Option.bind_some,number_eq _ 6 (by omega)]
    unfold curOf
    rw [hf]
    simp

/-! ### Names,versions,terms -/
def letB (c : Int) : Bool := decide (97 ≤ c) && decide (c ≤ 122)

def digitB (c : Int) : Bool := decide (48 ≤ c) && decide (c ≤ 57)

def namB (c : Int) : Bool := letB c || (digitB c || c == 95)

theorem l1Letter_eq (c : Int) : spec_l1Letter c = some (letB c) := by
  unfold spec_l1Letter letB
  by_cases h : c ≥ 97 <;> simp [h]

theorem l1Digit_eq (c : Int) : spec_l1Digit c = some (digitB c) := by
  unfold spec_l1Digit digitB
  by_cases h : c ≥ 48 <;> simp [h]

theorem l1Name_eq (c : Int) : spec_l1Name c = some (namB c) := by
  unfold spec_l1Name namB
  simp only [l1Letter_eq,l1Digit_eq,Option.bind_some]
  cases letB c <;> cases digitB c <;> simp

theorem isNameByte_eq (c : Int) : impl_isNameByte c = some (namB c) := by
  unfold impl_isNameByte namB letB digitB
  by_cases h1 : c ≥ 97 <;> by_cases h2 : c ≤ 122 <;> by_cases h3 : c ≥ 48 <;> by_cases h4 : c ≤ 57 <;> simp [h1,h2,h3,h4]

def nameScan (s : ByteArray) : Int := (scanL (fun _ c => if namB c then none else some (5 : Int)) 0 (bl s)).getD 0

/-- What is wrong with a name. -/
def NF (s : ByteArray) : Int := if s.size < 1 then 5 else if s.size > 12 then 5 else if letB ((bl s).headD 0) then nameScan s else 5

theorem bl_head {s : ByteArray} (h : 1 ≤ s.size) : bidx s 0 = some ((bl s).headD 0) := by
  have h' : 0 < (bl s).length := by rw [bl_length]; exact h
  have e := bidx_nat (s := s) (i := 0) h'
  rw [show ((0 : Nat) : Int) = 0 from rfl] at e
  rw [e]
  have : (bl s)[0]? = some ((bl s).headD 0) := by
    cases hb : bl s with
    | nil => rw [hb] at h'; simp at h'
    | cons c l => rfl
  rw [List.getElem?_eq_getElem h'] at this
  exact this

theorem spec_nameLoop (s : ByteArray) (h : s.size ≤ 12) : spec_NameFault_l1 s 0 = some (frs (scanL (fun _ c => if namB c then none else some (5 : Int)) 0 (bl s))) := by
  unfold spec_NameFault_l1
  refine loop_scan (bl s) _ (fun i hi => ?_) ?_
  · have hs : i < s.size := by rw [← bl_length]; exact hi
    unfold spec_NameFault_l1b
    rw [if_pos (by simp; omega),bidx_nat hi]
    simp only [Option.bind_some,l1Name_eq]
    rw [w64_nat (by omega)]
    cases namB (bl s)[i] <;> rfl
  · unfold spec_NameFault_l1b
    rw [if_neg (by rw [bl_length]; simp)]

theorem impl_nameLoop (s : ByteArray) (h : s.size ≤ 12) : impl_NameFault_l1 s 0 = some (frs (scanL (fun _ c => if namB c then none else some (5 : Int)) 0 (bl s))) := by
  unfold impl_NameFault_l1
  refine loop_scan (bl s) _ (fun i hi => ?_) ?_
  · have hs : i < s.size := by rw [← bl_length]; exact hi
    unfold impl_NameFault_l1b
    rw [if_pos (by simp; omega),bidx_nat hi]
    simp only [Option.bind_some,isNameByte_eq]
    rw [w64_nat (by omega)]
    cases namB (bl s)[i] <;> rfl
  · unfold impl_NameFault_l1b
    rw [if_neg (by rw [bl_length]; simp)]

theorem NameFault_spec (s : ByteArray) : spec_NameFault s = some (NF s) := by
  unfold spec_NameFault NF
  by_cases h1 : s.size < 1
  · rw [if_pos (show decide ((s.size : Int) < 1) = true by rw [decide_eq_true_eq]; omega),if_pos h1]; rfl
  rw [if_neg (show ¬ decide ((s.size : Int) < 1) = true by rw [decide_eq_true_eq]; omega),if_neg h1]
  by_cases h2 : s.size > 12
  · rw [if_pos (show decide ((s.size : Int) > 12) = true by rw [decide_eq_true_eq]; omega),if_pos h2]; rfl
  rw [if_neg (show ¬ decide ((s.size : Int) > 12) = true by rw [decide_eq_true_eq]; omega),if_neg h2,bl_head (by omega),spec_nameLoop s (by omega)]
  simp only [Option.bind_some,l1Letter_eq]
  cases h3 : letB ((bl s).headD 0)
  · rfl
  · unfold nameScan
    cases scanL (fun _ c => if namB c then none else some (5 : Int)) 0 (bl s) <;> rfl

theorem headTest (c : Int) : (if decide (c < 97) = true then some true else some (decide (c > 122))) = some (!(letB c)) := by
  unfold letB
  by_cases h3 : c < 97
  · rw [if_pos (by rw [decide_eq_true_eq]; exact h3)]
    have : decide (97 ≤ c) = false := by rw [decide_eq_false_iff_not]; omega
    rw [this]; rfl
  · rw [if_neg (by rw [decide_eq_true_eq]; exact h3)]
    have : decide (97 ≤ c) = true := by rw [decide_eq_true_eq]; omega
    rw [this]
    congr 1
    rw [Bool.true_and,Bool.eq_iff_iff]
    simp

theorem NameFault_impl (s : ByteArray) : impl_NameFault s = some (NF s) := by
  unfold impl_NameFault NF
  by_cases h1 : s.size < 1
  · rw [if_pos (show decide ((s.size : Int) < 1) = true by rw [decide_eq_true_eq]; omega),if_pos h1]; rfl
  rw [if_neg (show ¬ decide ((s.size : Int) < 1) = true by rw [decide_eq_true_eq]; omega),if_neg h1]
  by_cases h2 : s.size > 12
  · rw [if_pos (show decide ((s.size : Int) > 12) = true by rw [decide_eq_true_eq]; omega),if_pos h2]; rfl
  rw [if_neg (show ¬ decide ((s.size : Int) > 12) = true by rw [decide_eq_true_eq]; omega),if_neg h2,bl_head (by omega),impl_nameLoop s (by omega)]
  simp only [Option.bind_some,headTest]
  cases h3 : letB ((bl s).headD 0)
  · rfl
  · unfold nameScan
    cases scanL (fun _ c => if namB c then none else some (5 : Int)) 0 (bl s) <;> rfl

/-- What is wrong with a version. -/
def VF (v : Version) : Int := if inB v.A 0 999 && inB v.B 0 999 && inB v.C 0 999 then 0 else 3

theorem VersionFault_spec (v : Version) : spec_VersionFault v = some (VF v) := by
  unfold spec_VersionFault VF
  simp only [l1In_eq,Option.bind_some]
  cases inB v.A 0 999 <;> cases inB v.B 0 999 <;> cases inB v.C 0 999 <;> rfl

theorem VersionFault_impl (v : Version) : impl_VersionFault v = some (VF v) := by
  unfold impl_VersionFault VF
  simp only [within_eq,Option.bind_some]
  cases inB v.A 0 999 <;> cases inB v.B 0 999 <;> cases inB v.C 0 999 <;> rfl

def sgn (a b : Int) : Int := if a < b then -1 else if a > b then 1 else 0

theorem l1Sign_eq (a b : Int) : spec_l1Sign a b = some (sgn a b) := by
  unfold spec_l1Sign sgn
  by_cases h : a < b
  · simp [h]
  · by_cases h2 : a > b <;> simp [h,h2]

theorem cmp_eq (a b : Int) : cmp_Compare_int64 a b = some (sgn a b) := by
  unfold cmp_Compare_int64 cmp_isNaN_int64 sgn
  simp only [Option.bind_some,bne_self_eq_false,Bool.false_eq_true,if_false]
  by_cases h : a < b
  · simp [h]
  · by_cases h2 : a > b <;> simp [h,h2]

/-- Versions in order. -/
def cmpV (a b : Version) : Int := if sgn a.A b.A ≠ 0 then sgn a.A b.A else if sgn a.B b.B ≠ 0 then sgn a.B b.B else sgn a.C b.C

theorem CompareVersions_spec (a b : Version) : spec_CompareVersions a b = some (cmpV a b) := by
  unfold spec_CompareVersions cmpV
  simp only [l1Sign_eq,Option.bind_some]
  by_cases h1 : sgn a.A b.A = 0
  · by_cases h2 : sgn a.B b.B = 0 <;> simp [h1,h2]
  · simp [h1]

theorem firstOf (l : List Int) (h : l.length ≤ 10) : loop (cmp_Or_int_l1b l) 0 = some (frs (scanL (fun _ c => if c != 0 then some c else none) 0 l)) := by
  refine loop_scan l _ (fun i hi => ?_) ?_
  · unfold cmp_Or_int_l1b
    rw [if_pos (by simp; omega),idx_nat hi]
    simp only [Option.bind_some]
    rw [w64_nat (by omega)]
    cases l[i] != 0 <;> rfl
  · unfold cmp_Or_int_l1b
    rw [if_neg (by simp)]

theorem compare_impl (a b : Version) : impl_compare a b = some (cmpV a b) := by
  unfold impl_compare cmpV cmp_Or_int cmp_Or_int_l1
  simp only [cmp_eq,Option.bind_some]
  rw [firstOf _ (by simp),frs_go]
  by_cases h1 : sgn a.A b.A = 0
  · by_cases h2 : sgn a.B b.B = 0
    · by_cases h3 : sgn a.C b.C = 0 <;> simp [h1,h2,h3,scanL]
    · simp [h1,h2,scanL]
  · simp [h1,scanL]

theorem cmpV_swap (a b : Version) : cmpV b a = - cmpV a b := by
  unfold cmpV sgn
  split <;> split <;> omega

/-- Two versions are the same. -/
def eqV (a b : Version) : Bool := a.A == b.A && (a.B == b.B && (a.C == b.C && true))

theorem cmpV_zero (a b : Version) : (cmpV a b == 0) = eqV a b := by
  unfold cmpV eqV sgn
  rw [Bool.eq_iff_iff]
  simp only [beq_iff_eq,Bool.and_eq_true,Bool.and_true]
  constructor
  · intro h
    split at h <;> omega
  · intro ⟨h1,h2,h3⟩
    split <;> omega

def topV : Version := { A := 1000,B := 0,C := 0 }

/-- What is wrong with a term. -/
def TF (t : Term) : Int := if NF t.Name ≠ 0 then NF t.Name else if VF t.Low ≠ 0 then VF t.Low else
  if eqV t.High topV = false ∧ VF t.High ≠ 0 then 3 else if cmpV t.Low t.High ≥ 0 then 1 else 0

theorem TermFault_spec (t : Term) : spec_TermFault t = some (TF t) := by
  unfold spec_TermFault TF spec_l1Top
  simp only [NameFault_spec,VersionFault_spec,CompareVersions_spec,Option.bind_some]
  show (if (NF t.Name != 0) = true then some (NF t.Name) else if (VF t.Low != 0) = true then some (VF t.Low) else (if (!(eqV t.High topV)) = true then some (VF t.High != 0) else some false).bind fun v => if v = true then some 3 else if decide (cmpV t.Low t.High ≥ 0) = true then some 1 else some 0) = _
  generalize NF t.Name = a
  generalize VF t.Low = b
  generalize eqV t.High topV = c
  generalize VF t.High = d
  generalize cmpV t.Low t.High = e
  by_cases h1 : a = 0
  · by_cases h2 : b = 0
    · by_cases h4 : d = 0 <;> by_cases h5 : e ≥ 0 <;> cases c <;> simp [h1,h2,h4,h5]
    · simp [h1,h2]
  · simp [h1]

theorem TermFault_impl (t : Term) : impl_TermFault t = some (TF t) := by
  unfold impl_TermFault TF impl_top
  simp only [NameFault_impl,VersionFault_impl,compare_impl,Option.bind_some]
  show (if (NF t.Name != 0) = true then some (NF t.Name) else if (VF t.Low != 0) = true then some (VF t.Low) else (if (!(eqV t.High topV)) = true then some (VF t.High != 0) else some false).bind fun v => if v = true then some 3 else if decide (cmpV t.Low t.High ≥ 0) = true then some 1 else some 0) = _
  generalize NF t.Name = a
  generalize VF t.Low = b
  generalize eqV t.High topV = c
  generalize VF t.High = d
  generalize cmpV t.Low t.High = e
  by_cases h1 : a = 0
  · by_cases h2 : b = 0
    · by_cases h4 : d = 0 <;> by_cases h5 : e ≥ 0 <;> cases c <;> simp [h1,h2,h4,h5]
    · simp [h1,h2]
  · simp [h1]

/-- The first fault of terms. -/
def tsF (l : List Term) : Int := (scanL (fun _ t => if TF t != 0 then some (TF t) else none) 0 l).getD 0

theorem l2Terms_spec (l : List Term) (h : l.length ≤ 1048576) : spec_l2Terms l = some (tsF l) := by
  have key := loop_scan l (fun _ t => if TF t != 0 then some (TF t) else none) (b := spec_l2Terms_l1b l) (by
    intro i hi
    unfold spec_l2Terms_l1b
    rw [if_pos (by simp; omega),idx_nat hi]
    simp only [Option.bind_some,TermFault_spec]
    rw [w64_nat (by omega)]
    cases TF l[i] != 0 <;> rfl) (by
    unfold spec_l2Terms_l1b
    rw [if_neg (by simp)])
  unfold spec_l2Terms spec_l2Terms_l1 tsF
  rw [key,frs_go]
  cases scanL (fun _ t => if TF t != 0 then some (TF t) else none) 0 l <;> rfl

theorem termsFault_impl (l : List Term) (h : l.length ≤ 1048576) : impl_termsFault l = some (tsF l) := by
  have key := loop_scan l (fun _ t => if TF t != 0 then some (TF t) else none) (b := impl_termsFault_l1b l) (by
    intro i hi
    unfold impl_termsFault_l1b
    rw [if_pos (by simp; omega),idx_nat hi]
    simp only [Option.bind_some,TermFault_impl]
    rw [w64_nat (by omega)]
    cases TF l[i] != 0 <;> rfl) (by
    unfold impl_termsFault_l1b
    rw [if_neg (by simp)])
  unfold impl_termsFault impl_termsFault_l1 tsF
  rw [key,frs_go]
  cases scanL (fun _ t => if TF t != 0 then some (TF t) else none) 0 l <;> rfl

/-! ### The text of a version -/
theorem decS_size {n : Nat} (h : n < 1000) : (decS n).size ≤ 3 := by
  rw [← bl_length,bl_decS]
  exact decL_le 2 n (by omega)

theorem dot_size : (bs [46]).size = 1 := rfl

/-- The text of a version. -/
def verS (v : Version) : ByteArray := decS v.A.toNat ++ bs [46] ++ decS v.B.toNat ++ bs [46] ++ decS v.C.toNat

theorem VF_zero {v : Version} (h : VF v = 0) : (0 ≤ v.A ∧ v.A ≤ 999) ∧ (0 ≤ v.B ∧ v.B ≤ 999) ∧ (0 ≤ v.C ∧ v.C ≤ 999) := by
  unfold VF inB at h
  split at h
  · rename_i hh
    simp only [Bool.and_eq_true,decide_eq_true_eq] at hh
    omega
  · cases h

theorem verS_size {v : Version} (h : VF v = 0) : (verS v).size ≤ 11 := by
  obtain ⟨h1,h2,h3⟩ := VF_zero h
  unfold verS
  simp only [ba_size,dot_size]
  have a1 := decS_size (n := v.A.toNat) (by omega)
  have a2 := decS_size (n := v.B.toNat) (by omega)
  have a3 := decS_size (n := v.C.toNat) (by omega)
  omega

theorem dec_spec {x : Int} (h : 0 ≤ x ∧ x ≤ 999) : spec_l1Decimal x = some (decS x.toNat) := by
  have := l1Decimal_eq x.toNat (by omega)
  rwa [Int.toNat_of_nonneg h.1] at this

theorem dec_impl {x : Int} (h : 0 ≤ x ∧ x ≤ 999) : impl_dec x = some (decS x.toNat) := by
  have := FormatInt_eq x.toNat (by omega)
  rw [Int.toNat_of_nonneg h.1] at this
  unfold impl_dec
  rw [this]
  rfl

theorem FormatVersion_spec {v : Version} (h : VF v = 0) : spec_FormatVersion v = some (verS v) := by
  obtain ⟨h1,h2,h3⟩ := VF_zero h
  have a1 := decS_size (n := v.A.toNat) (by omega)
  have a2 := decS_size (n := v.B.toNat) (by omega)
  have a3 := decS_size (n := v.C.toNat) (by omega)
  unfold spec_FormatVersion verS
  rw [VersionFault_spec,h]
  simp only [Option.bind_some,dec_spec h1,dec_spec h2,dec_spec h3]
  rw [if_neg (by simp)]
  rw [cat_of (by rw [dot_size]; omega)]
  simp only [Option.bind_some]
  rw [cat_of (by simp only [ba_size,dot_size]; omega)]
  simp only [Option.bind_some]
  rw [cat_of (by simp only [ba_size,dot_size]; omega)]
  simp only [Option.bind_some]
  rw [cat_of (by simp only [ba_size,dot_size]; omega)]
  rfl

theorem text_impl {v : Version} (h : VF v = 0) : impl_Version_text v = some (verS v) := by
  obtain ⟨h1,h2,h3⟩ := VF_zero h
  have a1 := decS_size (n := v.A.toNat) (by omega)
  have a2 := decS_size (n := v.B.toNat) (by omega)
  have a3 := decS_size (n := v.C.toNat) (by omega)
  unfold impl_Version_text verS
  simp only [Option.bind_some,dec_impl h1,dec_impl h2,dec_impl h3]
  rw [cat_of (by rw [dot_size]; omega)]
  simp only [Option.bind_some]
  rw [cat_of (by simp only [ba_size,dot_size]; omega)]
  simp only [Option.bind_some]
  rw [cat_of (by simp only [ba_size,dot_size]; omega)]
  simp only [Option.bind_some]
  rw [cat_of (by simp only [ba_size,dot_size]; omega)]
  rfl

theorem NF_size {s : ByteArray} (h : NF s = 0) : 1 ≤ s.size ∧ s.size ≤ 12 := by
  unfold NF at h
  split at h
  · cases h
  · split at h
    · cases h
    · omega

/-! ### The text of a term -/
def zeroV : Version := { A := 0,B := 0,C := 0 }

def lowS (t : Term) : ByteArray := if eqV t.Low zeroV then bs [] else bs [62,61] ++ verS t.Low

def highS (t : Term) : ByteArray := if eqV t.High topV then bs [] else bs [60] ++ verS t.High

def termS (t : Term) : ByteArray := t.Name ++ (lowS t ++ highS t)

theorem bl_nil : bl (bs []) = [] := by unfold bl; rw [ByteArray.toList_eq]; rfl

theorem ba_nil (a : ByteArray) : a ++ bs [] = a := bl_inj.1 (by rw [bl_append,bl_nil,List.append_nil])

theorem TF_zero {t : Term} (h : TF t = 0) : NF t.Name = 0 ∧ VF t.Low = 0 ∧ (eqV t.High topV = true ∨ VF t.High = 0) ∧ cmpV t.Low t.High < 0 := by
  unfold TF at h
  split at h
  · rename_i h1; exact absurd h h1
  rename_i h1
  split at h
  · rename_i h2; exact absurd h h2
  rename_i h2
  split at h
  · cases h
  rename_i h3
  split at h
  · cases h
  rename_i h4
  refine ⟨by simpa using h1,by simpa using h2,?_,by omega⟩
  cases he : eqV t.High topV
  · refine .inr ?_
    by_cases hv : VF t.High = 0
    · exact hv
    · exact absurd ⟨he,hv⟩ h3
  · exact .inl rfl

theorem lowS_size {t : Term} (h : VF t.Low = 0) : (lowS t).size ≤ 13 := by
  unfold lowS
  have hv := verS_size h
  split
  · decide
  · rw [ba_size]; have : (bs [62,61]).size = 2 := rfl; omega

theorem highS_size {t : Term} (h : eqV t.High topV = true ∨ VF t.High = 0) : (highS t).size ≤ 12 := by
  unfold highS
  split
  · decide
  · rename_i he
    rcases h with h | h
    · exact absurd h he
    · have hv := verS_size h
      rw [ba_size]; have : (bs [60]).size = 1 := rfl; omega

theorem termS_size {t : Term} (h : TF t = 0) : (termS t).size ≤ 37 := by
  obtain ⟨h1,h2,h3,_⟩ := TF_zero h
  have a1 := NF_size h1
  have a2 := lowS_size h2
  have a3 := highS_size h3
  unfold termS
  simp only [ba_size]
  omega

theorem cmpV_ne (a b : Version) : (cmpV a b != 0) = !(eqV a b) := by
  rw [← cmpV_zero]; rfl

theorem FormatTerm_spec (t : Term) : spec_FormatTerm t = some (if TF t != 0 then bs [] else termS t) := by
  unfold spec_FormatTerm
  rw [TermFault_spec]
  simp only [Option.bind_some]
  cases h : TF t != 0
  case true => rfl
  have h0 : TF t = 0 := by simpa using h
  obtain ⟨h1,h2,h3,_⟩ := TF_zero h0
  have a1 := NF_size h1
  have a2 := lowS_size h2
  have a3 := highS_size h3
  rw [if_neg (by simp),if_neg (by simp),CompareVersions_spec]
  simp only [Option.bind_some,spec_l1Top]
  rw [show (cmpV t.Low ({ A := 0,B := 0,C := 0 } : Version) != 0) = !(eqV t.Low zeroV) from cmpV_ne _ _]
  have step1 : (if (!(eqV t.Low zeroV)) = true then (cat t.Name (bs [62,61])).bind fun x8 => (spec_FormatVersion t.Low).bind fun x10 => (cat x8 x10).bind fun x12 => some x12 else some t.Name) = some (t.Name ++ lowS t) := by
    unfold lowS at a2 ⊢
    cases hq : eqV t.Low zeroV
    · rw [if_pos (by rfl),FormatVersion_spec h2]
      have hv := verS_size h2
      have h62 : (bs [62,61]).size = 2 := rfl
      rw [cat_of (by omega)]
      simp only [Option.bind_some]
      rw [cat_of (by rw [ba_size]; omega)]
      simp only [Option.bind_some,ba_assoc]
      rfl
    · rw [if_neg (by simp)]
      rw [if_pos rfl,ba_nil]
  rw [step1]
  simp only [Option.bind_some]
  have step2 : (if (!(eqV t.High topV)) = true then (cat (t.Name ++ lowS t) (bs [60])).bind fun x8 => (spec_FormatVersion t.High).bind fun x10 => (cat x8 x10).bind fun x12 => some x12 else some (t.Name ++ lowS t)) = some (termS t) := by
    unfold termS
    unfold highS at a3 ⊢
    cases hq : eqV t.High topV
    · have hV : VF t.High = 0 := h3.resolve_left (by rw [hq]; simp)
      have hv := verS_size hV
      have h62 : (bs [60]).size = 1 := rfl
      rw [if_pos (by rfl),FormatVersion_spec hV]
      rw [cat_of (by rw [ba_size]; omega)]
      simp only [Option.bind_some]
      rw [cat_of (by simp only [ba_size]; omega)]
      simp only [Option.bind_some,ba_assoc]
      rfl
    · rw [if_neg (by simp)]
      rw [if_pos rfl,ba_nil]
  exact (congrArg (fun o => Option.bind o fun v => some v) step2)

theorem FormatTerm_impl (t : Term) : impl_FormatTerm t = some (if TF t != 0 then bs [] else termS t) := by
  unfold impl_FormatTerm
  rw [TermFault_impl]
  simp only [Option.bind_some]
  cases h : TF t != 0
  case true => rfl
  have h0 : TF t = 0 := by simpa using h
  obtain ⟨h1,h2,h3,_⟩ := TF_zero h0
  have a1 := NF_size h1
  have a2 := lowS_size h2
  have a3 := highS_size h3
  simp only [Bool.false_eq_true,if_false,Option.bind_some,impl_top]
  rw [show (!(t.Low.A == 0 && (t.Low.B == 0 && (t.Low.C == 0 && true)))) = !(eqV t.Low zeroV) from rfl]
  have step1 : (if (!(eqV t.Low zeroV)) = true then (impl_Version_text t.Low).bind fun x6 => (cat (bs [62,61]) x6).bind fun x8 => (cat t.Name x8).bind fun x10 => some x10 else some t.Name) = some (t.Name ++ lowS t) := by
    unfold lowS at a2 ⊢
    cases hq : eqV t.Low zeroV
    · rw [if_pos (by rfl),text_impl h2]
      have hv := verS_size h2
      have h62 : (bs [62,61]).size = 2 := rfl
      simp only [Option.bind_some]
      rw [cat_of (by omega)]
      simp only [Option.bind_some]
      rw [cat_of (by rw [ba_size]; omega)]
      rfl
    · rw [if_neg (by simp)]
      rw [if_pos rfl,ba_nil]
  rw [step1]
  simp only [Option.bind_some]
  have step2 : (if (!(eqV t.High topV)) = true then (impl_Version_text t.High).bind fun x6 => (cat (bs [60]) x6).bind fun x8 => (cat (t.Name ++ lowS t) x8).bind fun x10 => some x10 else some (t.Name ++ lowS t)) = some (termS t) := by
    unfold termS
    unfold highS at a3 ⊢
    cases hq : eqV t.High topV
    · have hV : VF t.High = 0 := h3.resolve_left (by rw [hq]; simp)
      have hv := verS_size hV
      have h62 : (bs [60]).size = 1 := rfl
      rw [if_pos (by rfl),text_impl hV]
      simp only [Option.bind_some]
      rw [cat_of (by omega)]
      simp only [Option.bind_some]
      rw [cat_of (by simp only [ba_size]; omega)]
      simp only [Option.bind_some,ba_assoc]
      rfl
    · rw [if_neg (by simp)]
      rw [if_pos rfl,ba_nil]
  exact (congrArg (fun o => Option.bind o fun v => some v) step2)

theorem tsF_scan : ∀ (l : List Term) (i : Nat),(scanL (fun _ t => if TF t != 0 then some (TF t) else none) i l).getD 0 = 0 → ∀ t ∈ l,TF t = 0
  | [],_,_ => by simp
  | t :: l,i,h => by
    simp only [scanL] at h
    cases ht : TF t != 0
    · rw [ht] at h
      have := tsF_scan l (i + 1) (by simpa using h)
      intro x hx
      rcases List.mem_cons.1 hx with rfl | hx
      · simpa using ht
      · exact this x hx
    · rw [ht] at h
      simp only [if_true,Option.getD_some] at h
      rw [h] at ht
      simp at ht

theorem tsF_zero {l : List Term} (h : tsF l = 0) : ∀ t ∈ l,TF t = 0 := tsF_scan l 0 h

/-- A text,grown line by line. -/
def growS {α : Type} (f : α → ByteArray) (a : ByteArray) (l : List α) : ByteArray := l.foldl (fun a t => a ++ f t) a

theorem growS_eq {α : Type} (f : α → ByteArray) : ∀ (l : List α) (a : ByteArray),foldI (fun _ a t => a ++ f t) 0 l a = growS f a l ∧ ∀ i,foldI (fun _ a t => a ++ f t) i l a = growS f a l
  | [],a => ⟨rfl,fun _ => rfl⟩
  | x :: l,a => by
    have := growS_eq f l (a ++ f x)
    exact ⟨this.2 1,fun i => this.2 (i + 1)⟩

/-- A loop that puts a line behind a text for each element. -/
theorem loop_grow {α : Type} (xs : List α) (f : α → ByteArray) (C : Nat) (hC : ∀ x ∈ xs,(f x).size ≤ C) {b : (ByteArray × Int) → Option (Lp (ByteArray × Int) ByteArray)} (a0 : ByteArray)
    (hstep : ∀ (i : Nat) (a : ByteArray) (hi : i < xs.length),a.size ≤ a0.size + i * C → b (a,(i : Int)) = some (.go (a ++ f xs[i],((i + 1 : Nat) : Int)))) (hend : ∀ a,b (a,(xs.length : Int)) = some (.done a)) :
    loop b (a0,0) = some (growS f a0 xs) ∧ (growS f a0 xs).size ≤ a0.size + xs.length * C := by
  have h := loop_foldI xs (fun _ a t => a ++ f t) (fun i a => a.size ≤ a0.size + i * C) (b := b) (fun i a hi hI => ⟨hstep i a hi hI,by
    have h := hC _ (List.getElem_mem hi)
    simp only [ba_size]
    rw [Nat.add_mul]
    omega⟩) hend xs.length 0 a0 (by omega) (by omega)
  rw [List.drop_zero,(growS_eq f xs a0).1] at h
  exact h

def lineS (t : Term) : ByteArray := termS t ++ bs [10]

/-- The text of terms. -/
def rootsS (l : List Term) : ByteArray := growS lineS (bs []) l

theorem lineS_size {t : Term} (h : TF t = 0) : (lineS t).size ≤ 38 := by
  unfold lineS
  have := termS_size h
  rw [ba_size]; have : (bs [10]).size = 1 := rfl; omega

theorem l8Text_spec (l : List Term) (hl : l.length ≤ 1048576) (h : ∀ t ∈ l,TF t = 0) : spec_l8Text l = some (rootsS l) := by
  have key := loop_grow l lineS 38 (fun t ht => lineS_size (h t ht)) (b := spec_l8Text_l1b l) (bs []) (fun i a hi ha => by
    have hz : (bs []).size = 0 := rfl
    have ht := h _ (List.getElem_mem hi)
    have hts := termS_size ht
    have h10 : (bs [10]).size = 1 := rfl
    unfold spec_l8Text_l1b
    rw [if_pos (by simp; omega),idx_nat hi]
    simp only [Option.bind_some,FormatTerm_spec]
    rw [if_neg (by simp [ht]),cat_of (by omega)]
    simp only [Option.bind_some]
    rw [cat_of (by rw [ba_size]; omega)]
    simp only [Option.bind_some,ba_assoc]
    rw [w64_nat (by omega)]
    rfl) (fun a => by
    unfold spec_l8Text_l1b
    rw [if_neg (by simp)])
  unfold spec_l8Text spec_l8Text_l1
  rw [key.1]
  rfl

theorem RootsText_impl (l : List Term) (hl : l.length ≤ 1048576) : impl_RootsText l = some (if tsF l != 0 then bs [] else rootsS l) := by
  unfold impl_RootsText
  rw [termsFault_impl l hl]
  simp only [Option.bind_some]
  cases h0 : tsF l != 0
  case true => rfl
  have h := tsF_zero (l := l) (by simpa using h0)
  have key := loop_grow l lineS 38 (fun t ht => lineS_size (h t ht)) (b := impl_RootsText_l1b l) (bs []) (fun i a hi ha => by
    have hz : (bs []).size = 0 := rfl
    have ht := h _ (List.getElem_mem hi)
    have hts := termS_size ht
    have h10 : (bs [10]).size = 1 := rfl
    unfold impl_RootsText_l1b
    rw [if_pos (by simp; omega),idx_nat hi]
    simp only [Option.bind_some,FormatTerm_impl]
    rw [if_neg (by simp [ht]),cat_of (by omega)]
    simp only [Option.bind_some]
    rw [cat_of (by rw [ba_size]; omega)]
    simp only [Option.bind_some]
    rw [w64_nat (by omega)]
    rfl) (fun a => by
    unfold impl_RootsText_l1b
    rw [if_neg (by simp)])
  unfold impl_RootsText_l1
  rw [key.1]
  rfl

/-! ### Packages,catalogs,sets -/
theorem seq_comm (a b : ByteArray) : seq a b = seq b a := by
  unfold seq
  rw [Bool.eq_iff_iff]
  simp only [beq_iff_eq]
  exact eq_comm

theorem scan_none {α R : Type} (g : Nat → α → Option R) : ∀ (xs : List α) (i : Nat),scanL g i xs = none ↔ ∀ (j : Nat) (h : j < xs.length),g (i + j) xs[j] = none
  | [],i => by simp [scanL]
  | x :: xs,i => by
    simp only [scanL]
    cases h : g i x with
    | some r =>
      simp only [reduceCtorEq,false_iff]
      intro hh
      have := hh 0 (by simp)
      simp only [Nat.add_zero,List.getElem_cons_zero] at this
      rw [h] at this
      cases this
    | none =>
      show scanL g (i + 1) xs = none ↔ _
      rw [scan_none g xs (i + 1)]
      constructor
      · intro hh j hj
        cases j with
        | zero => simpa using h
        | succ j =>
          have := hh j (by simpa using hj)
          rw [show i + (j + 1) = i + 1 + j by omega]
          simpa using this
      · intro hh j hj
        have := hh (j + 1) (by simpa using hj)
        rw [show i + (j + 1) = i + 1 + j by omega] at this
        simpa using this

theorem take_sub {α : Type} {xs : List α} {i : Nat} (h : i ≤ xs.length) : lsub xs 0 (i : Int) = some (xs.take i) := by
  have := lsub_of (xs := xs) (l := 0) (h := i) (by omega) h
  rw [show ((0 : Nat) : Int) = 0 from rfl] at this
  rw [this]
  simp

theorem holds_spec (l : List ByteArray) (n : ByteArray) (h : l.length ≤ 1048576) : spec_l2Holds l n = some (l.any fun x => seq x n) := by
  have key := loop_scan l (fun _ x => if seq x n then some true else none) (b := spec_l2Holds_l1b l n) (by
    intro i hi
    unfold spec_l2Holds_l1b
    rw [if_pos (by simp; omega),idx_nat hi]
    simp only [Option.bind_some]
    rw [w64_nat (by omega)]
    cases seq l[i] n <;> rfl) (by
    unfold spec_l2Holds_l1b
    rw [if_neg (by simp)])
  unfold spec_l2Holds spec_l2Holds_l1
  rw [key,frs_go,← scan_bool (fun x => seq x n) l 0]
  cases scanL (fun _ x => if seq x n then some true else none) 0 l <;> rfl

theorem contains_impl (l : List ByteArray) (n : ByteArray) (h : l.length ≤ 1048576) : slices_Contains_Lstring l n = some (l.any fun x => seq x n) := by
  have key := loop_scan l (fun i x => if seq x n then some (i : Int) else none) (b := slices_Index_Lstring_l1b l n) (by
    intro i hi
    unfold slices_Index_Lstring_l1b
    rw [if_pos (by simp; omega),idx_nat hi]
    simp only [Option.bind_some]
    rw [w64_nat (by omega),seq_comm n]
    cases seq l[i] n <;> rfl) (by
    unfold slices_Index_Lstring_l1b
    rw [if_neg (by simp)])
  unfold slices_Contains_Lstring slices_Index_Lstring slices_Index_Lstring_l1
  rw [key,frs_go]
  rw [← place_ge (scan_place (fun x => seq x n) l 0)]
  cases scanL (fun j x => if seq x n then some (j : Int) else none) 0 l <;> rfl

def provG (p : Pack) (i : Nat) (n : ByteArray) : Option Int := if NF n != 0 then some (NF n) else if seq n p.Name || (p.Provides.take i).any (fun x => seq x n) then some 6 else none

def needG (_ : Nat) (l : List Term) : Option Int := if (l.length : Int) == 0 then some 1 else if tsF l != 0 then some (tsF l) else none

def manyB (p : Pack) : Bool := decide ((p.Provides.length : Int) > 4) || (decide ((p.Needs.length : Int) > 4) || (decide ((p.Bars.length : Int) > 4) || p.Needs.any (fun l => decide ((l.length : Int) > 4))))

/-- What the lists of a package are worth. -/
def listsF (p : Pack) : Int := match scanL (provG p) 0 p.Provides with
  | some r => r
  | none => match scanL needG 0 p.Needs with
    | some r => r
    | none => tsF p.Bars

/-- What is wrong with a package. -/
def PF (p : Pack) : Int := if NF p.Name != 0 then NF p.Name else if VF p.Version != 0 then VF p.Version else if !(inB p.Size 1 200) then 3 else if manyB p then 2 else listsF p

theorem PackFault_lists (p : Pack) (hp : Pack.sm 1048576 p) : ((spec_PackFault_l2 p 0).bind (Fl.go some fun v60 => (spec_PackFault_l3 p 0).bind (Fl.go some fun v80 => (spec_l2Terms p.Bars).bind fun x81 => some x81))) = some (listsF p) := by
  obtain ⟨_,_,_,hpr,hne,hba⟩ := hp
  have k2 := loop_scan p.Provides (provG p) (b := spec_PackFault_l2b p) (by
    intro i hi
    unfold spec_PackFault_l2b provG
    rw [if_pos (by simp; omega),idx_nat hi]
    simp only [Option.bind_some,NameFault_spec]
    rw [take_sub (by omega)]
    simp only [Option.bind_some]
    rw [holds_spec _ _ (by simp; omega),w64_nat (by omega)]
    simp only [Option.bind_some]
    cases NF p.Provides[i] != 0 <;> cases seq p.Provides[i] p.Name <;> cases (p.Provides.take i).any (fun x => seq x p.Provides[i]) <;> rfl) (by
    unfold spec_PackFault_l2b
    rw [if_neg (by simp)])
  have k3 := loop_scan p.Needs needG (b := spec_PackFault_l3b p) (by
    intro i hi
    unfold spec_PackFault_l3b needG
    rw [if_pos (by simp; omega),idx_nat hi]
    simp only [Option.bind_some]
    rw [l2Terms_spec _ (hne.2 _ (List.getElem_mem hi)).1,w64_nat (by omega)]
    simp only [Option.bind_some]
    cases (p.Needs[i].length : Int) == 0 <;> cases tsF p.Needs[i] != 0 <;> rfl) (by
    unfold spec_PackFault_l3b
    rw [if_neg (by simp)])
  unfold spec_PackFault_l2 spec_PackFault_l3 listsF
  rw [k2,k3,l2Terms_spec _ hba.1]
  cases scanL (provG p) 0 p.Provides <;> cases scanL needG 0 p.Needs <;> rfl

theorem PackFault_listsI (p : Pack) (hp : Pack.sm 1048576 p) : ((impl_PackFault_l1 p 0).bind (Fl.go some fun v46 => (impl_PackFault_l2 p 0).bind (Fl.go some fun v62 => (impl_termsFault p.Bars).bind fun x63 => some x63))) = some (listsF p) := by
  obtain ⟨_,_,_,hpr,hne,hba⟩ := hp
  have k2 := loop_scan p.Provides (provG p) (b := impl_PackFault_l1b p) (by
    intro i hi
    unfold impl_PackFault_l1b provG
    rw [if_pos (by simp; omega),idx_nat hi]
    simp only [Option.bind_some,NameFault_impl]
    rw [take_sub (by omega)]
    simp only [Option.bind_some]
    rw [contains_impl _ _ (by simp; omega),w64_nat (by omega)]
    simp only [Option.bind_some]
    cases NF p.Provides[i] != 0 <;> cases seq p.Provides[i] p.Name <;> cases (p.Provides.take i).any (fun x => seq x p.Provides[i]) <;> rfl) (by
    unfold impl_PackFault_l1b
    rw [if_neg (by simp)])
  have k3 := loop_scan p.Needs needG (b := impl_PackFault_l2b p) (by
    intro i hi
    unfold impl_PackFault_l2b needG
    rw [if_pos (by simp; omega),idx_nat hi]
    simp only [Option.bind_some]
    rw [termsFault_impl _ (hne.2 _ (List.getElem_mem hi)).1,w64_nat (by omega)]
    simp only [Option.bind_some]
    cases (p.Needs[i].length : Int) == 0 <;> cases tsF p.Needs[i] != 0 <;> rfl) (by
    unfold impl_PackFault_l2b
    rw [if_neg (by simp)])
  unfold impl_PackFault_l1 impl_PackFault_l2 listsF
  rw [k2,k3,termsFault_impl _ hba.1]
  cases scanL (provG p) 0 p.Provides <;> cases scanL needG 0 p.Needs <;> rfl

theorem scan_const {α R : Type} (p : α → Bool) (r : R) : ∀ (xs : List α) (i : Nat),scanL (fun _ x => if p x then some r else none) i xs = if xs.any p then some r else none
  | [],i => rfl
  | x :: xs,i => by
    simp only [scanL]
    cases h : p x
    · simp only [Bool.false_eq_true,if_false,List.any_cons,h,Bool.false_or]
      exact scan_const p r xs (i + 1)
    · simp [h]

theorem PackFault_spec (p : Pack) (hp : Pack.sm 1048576 p) : spec_PackFault p = some (PF p) := by
  have hl := PackFault_lists p hp
  obtain ⟨_,_,_,hpr,hne,hba⟩ := hp
  have k1 := loop_scan p.Needs (fun _ l => if decide ((l.length : Int) > 4) then some (2 : Int) else none) (b := spec_PackFault_l1b p) (by
    intro i hi
    unfold spec_PackFault_l1b
    rw [if_pos (by simp; omega),idx_nat hi]
    simp only [Option.bind_some]
    rw [w64_nat (by omega)]
    cases decide ((p.Needs[i].length : Int) > 4) <;> rfl) (by
    unfold spec_PackFault_l1b
    rw [if_neg (by simp)])
  rw [scan_const] at k1
  unfold spec_PackFault PF manyB
  simp only [NameFault_spec,VersionFault_spec,l1In_eq,Option.bind_some]
  rw [hl]
  unfold spec_PackFault_l1
  rw [k1]
  cases NF p.Name != 0 <;> cases VF p.Version != 0 <;> cases inB p.Size 1 200 <;> cases decide ((p.Provides.length : Int) > 4) <;> cases decide ((p.Needs.length : Int) > 4) <;> cases decide ((p.Bars.length : Int) > 4) <;> cases p.Needs.any (fun l => decide ((l.length : Int) > 4)) <;> rfl

theorem firstOf2 (l : List Int) (h : l.length ≤ 10) : loop (impl_firstCode_l1b l) 0 = some (frs (scanL (fun _ c => if c != 0 then some c else none) 0 l)) := by
  refine loop_scan l _ (fun i hi => ?_) ?_
  · unfold impl_firstCode_l1b
    rw [if_pos (by simp; omega),idx_nat hi]
    simp only [Option.bind_some]
    rw [w64_nat (by omega)]
    cases l[i] != 0 <;> rfl
  · unfold impl_firstCode_l1b
    rw [if_neg (by simp)]

theorem PackFault_impl (p : Pack) (hp : Pack.sm 1048576 p) : impl_PackFault p = some (PF p) := by
  have hl := PackFault_listsI p hp
  obtain ⟨_,_,_,hpr,hne,hba⟩ := hp
  have k1 := loop_scan p.Needs (fun i l => if decide ((l.length : Int) > 4) then some (i : Int) else none) (b := slices_IndexFunc_LLimplTerm_impl_PackFault_1_l1b p.Needs) (by
    intro i hi
    unfold slices_IndexFunc_LLimplTerm_impl_PackFault_1_l1b impl_PackFault_1
    rw [if_pos (by simp; omega),idx_nat hi]
    simp only [Option.bind_some]
    rw [w64_nat (by omega)]
    cases decide ((p.Needs[i].length : Int) > 4) <;> rfl) (by
    unfold slices_IndexFunc_LLimplTerm_impl_PackFault_1_l1b
    rw [if_neg (by simp)])
  have k2 : slices_ContainsFunc_LLimplTerm_impl_PackFault_1 p.Needs = some (p.Needs.any (fun l => decide ((l.length : Int) > 4))) := by
    unfold slices_ContainsFunc_LLimplTerm_impl_PackFault_1 slices_IndexFunc_LLimplTerm_impl_PackFault_1 slices_IndexFunc_LLimplTerm_impl_PackFault_1_l1
    rw [k1,frs_go,← place_ge (scan_place (fun l : List Term => decide ((l.length : Int) > 4)) p.Needs 0)]
    cases scanL (fun j (x : List Term) => if decide ((x.length : Int) > 4) then some (j : Int) else none) 0 p.Needs <;> rfl
  have k3 : impl_firstCode [NF p.Name,VF p.Version] = some (if NF p.Name != 0 then NF p.Name else VF p.Version) := by
    have k := firstOf2 [NF p.Name,VF p.Version] (by simp)
    unfold impl_firstCode impl_firstCode_l1
    rw [k,frs_go]
    simp only [scanL]
    cases hn : NF p.Name != 0
    · cases hv : VF p.Version != 0
      · have : VF p.Version = 0 := by simpa using hv
        simp [this]
      · rfl
    · rfl
  unfold impl_PackFault PF manyB
  simp only [NameFault_impl,VersionFault_impl,within_eq,Option.bind_some]
  rw [hl,k2,k3]
  simp only [Option.bind_some]
  cases hn : NF p.Name != 0
  · simp only [Bool.false_eq_true,if_false]
    cases VF p.Version != 0 <;> cases inB p.Size 1 200 <;> cases decide ((p.Provides.length : Int) > 4) <;> cases decide ((p.Needs.length : Int) > 4) <;> cases decide ((p.Bars.length : Int) > 4) <;> cases p.Needs.any (fun l => decide ((l.length : Int) > 4)) <;> rfl
  · simp only [if_true,hn]

/-! ### Catalogs -/
/-- One of this name and version. -/
def isB (n : ByteArray) (v : Version) (q : Pack) : Bool := seq q.Name n && eqV q.Version v

/-- The place of a package. -/
def findK (c : List Pack) (n : ByteArray) (v : Version) : Int := (scanL (fun i q => if isB n v q then some (i : Int) else none) 0 c).getD (-1)

theorem findK_any (c : List Pack) (n : ByteArray) (v : Version) : decide (findK c n v ≥ 0) = c.any (isB n v) := place_ge (scan_place (isB n v) c 0)

theorem findK_spec (c : List Pack) (n : ByteArray) (v : Version) (h : c.length ≤ 1048576) : spec_l2Find c n v = some (findK c n v) := by
  have key := loop_scan c (fun i q => if isB n v q then some (i : Int) else none) (b := spec_l2Find_l1b c n v) (by
    intro i hi
    unfold spec_l2Find_l1b isB
    rw [if_pos (by simp; omega),idx_nat hi]
    simp only [Option.bind_some,CompareVersions_spec,cmpV_zero]
    rw [w64_nat (by omega)]
    cases seq c[i].Name n <;> cases eqV c[i].Version v <;> rfl) (by
    unfold spec_l2Find_l1b
    rw [if_neg (by simp)])
  unfold findK
  unfold spec_l2Find spec_l2Find_l1
  rw [key,frs_go]
  cases scanL (fun i q => if isB n v q then some (i : Int) else none) 0 c <;> rfl

theorem findK_impl (c : List Pack) (n : ByteArray) (v : Version) (h : c.length ≤ 1048576) : impl_find c n v = some (findK c n v) := by
  have key := loop_scan c (fun i q => if isB n v q then some (i : Int) else none) (b := slices_IndexFunc_LimplPack_impl_find_1_l1b c n v) (by
    intro i hi
    unfold slices_IndexFunc_LimplPack_impl_find_1_l1b isB impl_find_1
    rw [if_pos (by simp; omega),idx_nat hi]
    simp only [Option.bind_some]
    rw [w64_nat (by omega)]
    show (Option.bind (if seq c[i].Name n = true then some (eqV c[i].Version v) else some false) _) = _
    cases seq c[i].Name n <;> cases eqV c[i].Version v <;> rfl) (by
    unfold slices_IndexFunc_LimplPack_impl_find_1_l1b
    rw [if_neg (by simp)])
  unfold findK
  unfold impl_find slices_IndexFunc_LimplPack_impl_find_1 slices_IndexFunc_LimplPack_impl_find_1_l1
  rw [key,frs_go]
  cases scanL (fun i q => if isB n v q then some (i : Int) else none) 0 c <;> rfl

theorem find_spec (c : List Pack) (n : ByteArray) (v : Version) (h : c.length ≤ 1048576) : ∃ k,spec_l2Find c n v = some k ∧ decide (k ≥ 0) = c.any (isB n v) := ⟨_,findK_spec c n v h,findK_any c n v⟩

theorem find_impl (c : List Pack) (n : ByteArray) (v : Version) (h : c.length ≤ 1048576) : ∃ k,impl_find c n v = some k ∧ decide (k ≥ 0) = c.any (isB n v) := ⟨_,findK_impl c n v h,findK_any c n v⟩

theorem scan_bound {p : Pack → Bool} : ∀ (c : List Pack) (i : Nat),(scanL (fun i q => if p q then some (i : Int) else none) i c).getD (-1) = -1 ∨ ((i : Int) ≤ (scanL (fun i q => if p q then some (i : Int) else none) i c).getD (-1) ∧ (scanL (fun i q => if p q then some (i : Int) else none) i c).getD (-1) < (i : Int) + c.length)
  | [],i => .inl rfl
  | q :: c,i => by
    simp only [scanL]
    cases h : p q
    · have := scan_bound (p := p) c (i + 1)
      simp only [Bool.false_eq_true,if_false,List.length_cons]
      rcases this with h | h
      · exact .inl h
      · exact .inr (by omega)
    · simp only [if_true,Option.getD_some,List.length_cons]
      exact .inr (by omega)

theorem findK_bound (c : List Pack) (n : ByteArray) (v : Version) : findK c n v = -1 ∨ (0 ≤ findK c n v ∧ findK c n v < c.length) := by
  have := scan_bound (p := isB n v) c 0
  unfold findK
  rcases this with h | h
  · exact .inl h
  · exact .inr (by simpa using h)

def catG (c : List Pack) (i : Nat) (p : Pack) : Option Int := if PF p != 0 then some (PF p) else if (c.take i).any (isB p.Name p.Version) then some 6 else none

/-- What is wrong with a catalog. -/
def CF (c : List Pack) : Int := if decide ((c.length : Int) > 24) then 2 else (scanL (catG c) 0 c).getD 0

theorem CatalogFault_spec (c : List Pack) (hc : c.length ≤ 1048576 ∧ ∀ y0 ∈ c,Pack.sm 1048576 y0) : spec_CatalogFault c = some (CF c) := by
  have key := loop_scan c (catG c) (b := spec_CatalogFault_l1b c) (by
    intro i hi
    unfold spec_CatalogFault_l1b catG
    rw [if_pos (by simp; omega),idx_nat hi]
    simp only [Option.bind_some]
    rw [PackFault_spec _ (hc.2 _ (List.getElem_mem hi)),take_sub (by omega)]
    simp only [Option.bind_some]
    obtain ⟨k,e,hk⟩ := find_spec (c.take i) c[i].Name c[i].Version (by simp; omega)
    rw [e,w64_nat (by omega)]
    simp only [Option.bind_some]
    rw [hk]
    cases PF c[i] != 0 <;> cases (c.take i).any (isB c[i].Name c[i].Version) <;> rfl) (by
    unfold spec_CatalogFault_l1b
    rw [if_neg (by simp)])
  unfold spec_CatalogFault CF spec_CatalogFault_l1
  rw [key,frs_go]
  cases decide ((c.length : Int) > 24) <;> cases scanL (catG c) 0 c <;> rfl

theorem CatalogFault_impl (c : List Pack) (hc : c.length ≤ 1048576 ∧ ∀ y0 ∈ c,Pack.sm 1048576 y0) : impl_CatalogFault c = some (CF c) := by
  have key := loop_scan c (catG c) (b := impl_CatalogFault_l1b c) (by
    intro i hi
    unfold impl_CatalogFault_l1b catG
    rw [if_pos (by simp; omega),idx_nat hi]
    simp only [Option.bind_some]
    rw [PackFault_impl _ (hc.2 _ (List.getElem_mem hi)),take_sub (by omega)]
    simp only [Option.bind_some]
    obtain ⟨k,e,hk⟩ := find_impl (c.take i) c[i].Name c[i].Version (by simp; omega)
    rw [e,w64_nat (by omega)]
    simp only [Option.bind_some]
    rw [hk]
    cases PF c[i] != 0 <;> cases (c.take i).any (isB c[i].Name c[i].Version) <;> rfl) (by
    unfold impl_CatalogFault_l1b
    rw [if_neg (by simp)])
  unfold impl_CatalogFault CF impl_CatalogFault_l1
  rw [key,frs_go]
  cases decide ((c.length : Int) > 24) <;> cases scanL (catG c) 0 c <;> rfl

/-! ### Catalogs and places -/
def noPack : Pack := { Name := ByteArray.empty,Version := { A := 0,B := 0,C := 0 },Size := 0,Provides := [],Needs := [],Bars := [] }

def pat (c : List Pack) (k : Int) : Pack := (idx c k).getD noPack

def Places (c : List Pack) (a : List Int) : Prop := ∀ k ∈ a,0 ≤ k ∧ k < c.length

theorem pat_idx {c : List Pack} {k : Int} (h : 0 ≤ k ∧ k < c.length) : idx c k = some (pat c k) ∧ pat c k ∈ c := by
  unfold pat idx
  rw [if_pos h.1]
  have : k.toNat < c.length := by omega
  rw [List.getElem?_eq_getElem this]
  exact ⟨rfl,List.getElem_mem this⟩

def Cat (c : List Pack) : Prop := c.length ≤ 1048576 ∧ ∀ y0 ∈ c,Pack.sm 1048576 y0

theorem Cat.prov {c : List Pack} (hc : Cat c) {k : Int} (h : 0 ≤ k ∧ k < c.length) : (pat c k).Provides.length ≤ 1048576 := (hc.2 _ (pat_idx h).2).2.2.2.1.1

theorem Cat.needs {c : List Pack} (hc : Cat c) {k : Int} (h : 0 ≤ k ∧ k < c.length) : (pat c k).Needs.length ≤ 1048576 := (hc.2 _ (pat_idx h).2).2.2.2.2.1.1

theorem Cat.clause {c : List Pack} (hc : Cat c) {k : Int} (h : 0 ≤ k ∧ k < c.length) {l : List Term} (hl : l ∈ (pat c k).Needs) : l.length ≤ 1048576 := ((hc.2 _ (pat_idx h).2).2.2.2.2.1.2 l hl).1

theorem Cat.bars {c : List Pack} (hc : Cat c) {k : Int} (h : 0 ≤ k ∧ k < c.length) : (pat c k).Bars.length ≤ 1048576 := (hc.2 _ (pat_idx h).2).2.2.2.2.2.1

/-! ### Sets and plans -/
def setG (c : List Pack) (a : List Int) (i : Nat) (k : Int) : Option Bool := if !(inB k 0 ((c.length : Int) - 1)) || (decide (0 < i) && decide (k ≤ a.getD (i - 1) 0)) then some false else none

/-- The places are places,in order. -/
def setB (c : List Pack) (a : List Int) : Bool := (scanL (setG c a) 0 a).isNone

theorem getD_lt {a : List Int} {i : Nat} (h : i < a.length) : a.getD i 0 = a[i] := by simp [List.getD,h]

/-- What is wrong with a set. -/
def SF (c : List Pack) (a : List Int) : Int := if CF c != 0 then CF c else if setB c a then 0 else 1

def ordG (a : List Int) (i : Nat) (k : Int) : Option Int := if decide (k ≤ a.getD (i - 1) 0) then some 1 else none

theorem setB_iff (c : List Pack) (a : List Int) : setB c a = ((scanL (ordG a) 1 (a.drop 1)).isNone && a.all (fun k => inB k 0 ((c.length : Int) - 1))) := by
  unfold setB
  rw [Bool.eq_iff_iff,Bool.and_eq_true,Option.isNone_iff_eq_none,Option.isNone_iff_eq_none,scan_none,scan_none,List.all_eq_true]
  constructor
  · intro h
    constructor
    · intro j hj
      have hj' : 1 + j < a.length := by simp at hj; omega
      have := h (1 + j) hj'
      unfold setG at this
      unfold ordG
      rw [List.getElem_drop]
      split at this
      · cases this
      · rename_i hn
        rw [if_neg]
        intro hx
        apply hn
        rw [Nat.zero_add]
        rw [Bool.or_eq_true,Bool.and_eq_true]
        exact .inr ⟨by rw [decide_eq_true_eq]; omega,hx⟩
    · intro k hk
      obtain ⟨i,hi,rfl⟩ := List.mem_iff_getElem.1 hk
      have := h i hi
      unfold setG at this
      split at this
      · cases this
      · rename_i hn
        simp only [Bool.or_eq_true,not_or] at hn
        simpa using hn.1
  · rintro ⟨h1,h2⟩ j hj
    unfold setG
    rw [if_neg]
    rw [Nat.zero_add,h2 _ (List.getElem_mem hj)]
    simp only [Bool.not_true,Bool.false_or,Bool.and_eq_true,not_and]
    intro h0 hx
    have h0' : 0 < j := by simpa using h0
    have hd : j - 1 < (a.drop 1).length := by simp; omega
    have := h1 (j - 1) hd
    unfold ordG at this
    rw [List.getElem_drop] at this
    have ej : 1 + (j - 1) = j := by omega
    simp only [ej] at this
    rw [if_pos hx] at this
    cases this

theorem SF_places {c : List Pack} {a : List Int} (h : (SF c a == 0) = true) : Places c a := by
  unfold SF at h
  split at h
  · rename_i h1
    rw [beq_iff_eq] at h
    rw [h] at h1
    simp at h1
  · split at h
    · rename_i h2
      rw [setB_iff,Bool.and_eq_true,List.all_eq_true] at h2
      intro k hk
      have := h2.2 k hk
      unfold inB at this
      simp only [Bool.and_eq_true,decide_eq_true_eq] at this
      omega
    · cases h

/-! ### What a package gives; the faults of a set -/
def verB (t : Term) (v : Version) : Bool := decide (cmpV v t.Low ≥ 0) && decide (cmpV v t.High < 0)

def hasT (t : Term) (n : ByteArray) (v : Version) : Bool := seq t.Name n && verB t v

theorem inTerm_spec (t : Term) (n : ByteArray) (v : Version) : spec_l1InTerm t n v = some (hasT t n v) := by
  unfold spec_l1InTerm hasT verB
  simp only [CompareVersions_spec,Option.bind_some]
  cases seq t.Name n <;> cases decide (cmpV v t.Low ≥ 0) <;> rfl

theorem has_impl (t : Term) (n : ByteArray) (v : Version) : impl_Term_has t n v = some (hasT t n v) := by
  unfold impl_Term_has hasT verB
  simp only [compare_impl,Option.bind_some]
  have e : decide (cmpV t.Low v ≤ 0) = decide (cmpV v t.Low ≥ 0) := by
    rw [cmpV_swap v t.Low]
    rw [Bool.eq_iff_iff,decide_eq_true_eq,decide_eq_true_eq]
    omega
  rw [e]
  cases seq t.Name n <;> cases decide (cmpV v t.Low ≥ 0) <;> rfl

def givesB (p : Pack) (t : Term) : Bool := (seq t.Name p.Name || p.Provides.any (fun x => seq x t.Name)) && verB t p.Version

theorem gives_spec (p : Pack) (t : Term) (h : p.Provides.length ≤ 1048576) : spec_l2Gives p t = some (givesB p t) := by
  unfold spec_l2Gives givesB
  simp only [inTerm_spec,Option.bind_some,holds_spec _ _ h,hasT,seq_self,Bool.true_and]
  cases seq t.Name p.Name <;> cases p.Provides.any (fun x => seq x t.Name) <;> rfl

theorem gives_impl (p : Pack) (t : Term) (h : p.Provides.length ≤ 1048576) : impl_Pack_gives p t = some (givesB p t) := by
  unfold impl_Pack_gives impl_Pack_names
  rw [app_of (by simp; omega) (by simp; omega)]
  simp only [Option.bind_some]
  have key := loop_scan ([p.Name] ++ p.Provides) (fun i n => if hasT t n p.Version then some (i : Int) else none) (b := slices_IndexFunc_Lstringr_impl_Pack_gives_1_l1b ([p.Name] ++ p.Provides) t p) (by
    intro i hi
    have hi' : i < p.Provides.length + 1 := by simpa using hi
    unfold slices_IndexFunc_Lstringr_impl_Pack_gives_1_l1b impl_Pack_gives_1
    rw [if_pos (by rw [decide_eq_true_eq]; exact Int.ofNat_lt.2 hi),idx_nat hi]
    simp only [Option.bind_some,has_impl]
    rw [w64_nat (by omega)]
    cases hasT t ([p.Name] ++ p.Provides)[i] p.Version <;> rfl) (by
    unfold slices_IndexFunc_Lstringr_impl_Pack_gives_1_l1b
    rw [if_neg (by simp)])
  unfold slices_ContainsFunc_Lstringr_impl_Pack_gives_1 slices_IndexFunc_Lstringr_impl_Pack_gives_1 slices_IndexFunc_Lstringr_impl_Pack_gives_1_l1
  rw [key,frs_go]
  have e : givesB p t = ([p.Name] ++ p.Provides).any (fun n => hasT t n p.Version) := by
    unfold givesB hasT
    have : (fun n => seq t.Name n && verB t p.Version) = (fun n => seq n t.Name && verB t p.Version) := funext fun n => by rw [seq_comm]
    rw [this,seq_comm t.Name p.Name]
    cases verB t p.Version <;> simp
  rw [e,← place_ge (scan_place (fun n => hasT t n p.Version) ([p.Name] ++ p.Provides) 0)]
  cases scanL (fun i n => if hasT t n p.Version then some (i : Int) else none) 0 ([p.Name] ++ p.Provides) <;> rfl

theorem givesOne_impl (p : Pack) (l : List Term) (h : p.Provides.length ≤ 1048576) (hl : l.length ≤ 1048576) : impl_Pack_givesOne p l = some (l.any (givesB p)) := by
  have key := loop_scan l (fun i t => if givesB p t then some (i : Int) else none) (b := slices_IndexFunc_LimplTerm_impl_Pack_gives_l1b l p) (by
    intro i hi
    unfold slices_IndexFunc_LimplTerm_impl_Pack_gives_l1b
    rw [if_pos (by simp; omega),idx_nat hi]
    simp only [Option.bind_some,gives_impl _ _ h]
    rw [w64_nat (by omega)]
    cases givesB p l[i] <;> rfl) (by
    unfold slices_IndexFunc_LimplTerm_impl_Pack_gives_l1b
    rw [if_neg (by simp)])
  unfold impl_Pack_givesOne slices_ContainsFunc_LimplTerm_impl_Pack_gives slices_IndexFunc_LimplTerm_impl_Pack_gives slices_IndexFunc_LimplTerm_impl_Pack_gives_l1
  rw [key,frs_go,← place_ge (scan_place (givesB p) l 0)]
  cases scanL (fun i t => if givesB p t then some (i : Int) else none) 0 l <;> rfl

/-- The places of a set are places of the catalog. -/
def givenB (c : List Pack) (a : List Int) (t : Term) (x : Int) : Bool := a.any (fun k => k != x && givesB (pat c k) t)

theorem given_spec {c : List Pack} {a : List Int} (hc : Cat c) (hp : Places c a) (ha : a.length ≤ 1048576) (t : Term) (x : Int) : spec_l3Given c a t x = some (givenB c a t x) := by
  have key := loop_scan a (fun _ k => if k != x && givesB (pat c k) t then some true else none) (b := spec_l3Given_l1b c a t x) (by
    intro i hi
    have hk := hp _ (List.getElem_mem hi)
    unfold spec_l3Given_l1b
    rw [if_pos (by simp; omega),idx_nat hi]
    simp only [Option.bind_some]
    rw [(pat_idx hk).1]
    simp only [Option.bind_some]
    rw [gives_spec _ _ (hc.prov hk),w64_nat (by omega)]
    cases a[i] != x <;> cases givesB (pat c a[i]) t <;> rfl) (by
    unfold spec_l3Given_l1b
    rw [if_neg (by simp)])
  unfold spec_l3Given spec_l3Given_l1 givenB
  rw [key,frs_go,← scan_bool (fun k => k != x && givesB (pat c k) t) a 0]
  cases scanL (fun _ k => if k != x && givesB (pat c k) t then some true else none) 0 a <;> rfl

theorem given_impl {c : List Pack} {a : List Int} (hc : Cat c) (hp : Places c a) (ha : a.length ≤ 1048576) (t : Term) (x : Int) : slices_ContainsFunc_Lint64_impl_faults_2 a x c t = some (givenB c a t x) := by
  have key := loop_scan a (fun i k => if k != x && givesB (pat c k) t then some (i : Int) else none) (b := slices_IndexFunc_Lint64_impl_faults_2_l1b a x c t) (by
    intro i hi
    have hk := hp _ (List.getElem_mem hi)
    unfold slices_IndexFunc_Lint64_impl_faults_2_l1b impl_faults_2
    rw [if_pos (by simp; omega),idx_nat hi]
    simp only [Option.bind_some]
    rw [(pat_idx hk).1]
    simp only [Option.bind_some]
    rw [gives_impl _ _ (hc.prov hk),w64_nat (by omega)]
    cases a[i] != x <;> cases givesB (pat c a[i]) t <;> rfl) (by
    unfold slices_IndexFunc_Lint64_impl_faults_2_l1b
    rw [if_neg (by simp)])
  unfold slices_ContainsFunc_Lint64_impl_faults_2 slices_IndexFunc_Lint64_impl_faults_2 slices_IndexFunc_Lint64_impl_faults_2_l1 givenB
  rw [key,frs_go,← place_ge (scan_place (fun k => k != x && givesB (pat c k) t) a 0)]
  cases scanL (fun i k => if k != x && givesB (pat c k) t then some (i : Int) else none) 0 a <;> rfl

def metB (c : List Pack) (a : List Int) (l : List Term) : Bool := a.any (fun k => l.any (givesB (pat c k)))

theorem met_spec {c : List Pack} {a : List Int} (hc : Cat c) (hp : Places c a) (ha : a.length ≤ 1048576) (l : List Term) (hl : l.length ≤ 1048576) : spec_l3Met c a l = some (metB c a l) := by
  have key := loop_scan l (fun _ t => if givenB c a t (-1) then some true else none) (b := spec_l3Met_l1b c a l) (by
    intro i hi
    unfold spec_l3Met_l1b
    rw [if_pos (by simp; omega),idx_nat hi]
    simp only [Option.bind_some,given_spec hc hp ha]
    rw [w64_nat (by omega)]
    cases givenB c a l[i] (-1) <;> rfl) (by
    unfold spec_l3Met_l1b
    rw [if_neg (by simp)])
  unfold spec_l3Met spec_l3Met_l1
  rw [key,frs_go]
  have e : metB c a l = l.any (fun t => givenB c a t (-1)) := by
    unfold metB givenB
    rw [Bool.eq_iff_iff]
    simp only [List.any_eq_true,Bool.and_eq_true,bne_iff_ne]
    constructor
    · rintro ⟨k,hk,t,ht,hg⟩
      exact ⟨t,ht,k,hk,by have := (hp k hk).1; omega,hg⟩
    · rintro ⟨t,ht,k,hk,_,hg⟩
      exact ⟨k,hk,t,ht,hg⟩
  rw [e,← scan_bool (fun t => givenB c a t (-1)) l 0]
  cases scanL (fun _ t => if givenB c a t (-1) then some true else none) 0 l <;> rfl

theorem met_impl {c : List Pack} {a : List Int} (hc : Cat c) (hp : Places c a) (ha : a.length ≤ 1048576) (l : List Term) (hl : l.length ≤ 1048576) : slices_ContainsFunc_Lint64_impl_faults_1 a c l = some (metB c a l) := by
  have key := loop_scan a (fun i k => if l.any (givesB (pat c k)) then some (i : Int) else none) (b := slices_IndexFunc_Lint64_impl_faults_1_l1b a c l) (by
    intro i hi
    have hk := hp _ (List.getElem_mem hi)
    unfold slices_IndexFunc_Lint64_impl_faults_1_l1b impl_faults_1
    rw [if_pos (by simp; omega),idx_nat hi]
    simp only [Option.bind_some]
    rw [(pat_idx hk).1]
    simp only [Option.bind_some]
    rw [givesOne_impl _ _ (hc.prov hk) hl,w64_nat (by omega)]
    cases l.any (givesB (pat c a[i])) <;> rfl) (by
    unfold slices_IndexFunc_Lint64_impl_faults_1_l1b
    rw [if_neg (by simp)])
  unfold slices_ContainsFunc_Lint64_impl_faults_1 slices_IndexFunc_Lint64_impl_faults_1 slices_IndexFunc_Lint64_impl_faults_1_l1 metB
  rw [key,frs_go,← place_ge (scan_place (fun k => l.any (givesB (pat c k))) a 0)]
  cases scanL (fun i k => if l.any (givesB (pat c k)) then some (i : Int) else none) 0 a <;> rfl

theorem loop_scanT {α T : Type} (xs : List α) (g : Nat → α → Option T) (e : T) {b : Int → Option (Lp Int T)}
    (hstep : ∀ (i : Nat) (hi : i < xs.length),b (i : Int) = some (match g i xs[i] with | some r => .done r | none => .go ((i + 1 : Nat) : Int))) (hend : b (xs.length : Int) = some (.done e)) :
    ∀ (k i : Nat),i + k = xs.length → loop b (i : Int) = some ((scanL g i (xs.drop i)).getD e)
  | 0,i,h => by
    have e : i = xs.length := by omega
    subst e
    rw [loop_eq,hend,List.drop_length]
    rfl
  | k + 1,i,h => by
    have hi : i < xs.length := by omega
    have ih := loop_scanT xs g e hstep hend k (i + 1) (by omega)
    rw [loop_eq,hstep i hi,List.drop_eq_getElem_cons hi]
    simp only [scanL]
    cases g i xs[i] with
    | some r => rfl
    | none => exact ih

def fN (c : List Pack) (a : List Int) (k : Int) (j : Nat) (l : List Fault) (x : List Term) : List Fault := if !(metB c a x) then l ++ [{ Kind := 2,Pack := k,At := (j : Int) }] else l

def fB (c : List Pack) (a : List Int) (k : Int) (j : Nat) (l : List Fault) (t : Term) : List Fault := if givenB c a t k then l ++ [{ Kind := 3,Pack := k,At := (j : Int) }] else l

def fD (c : List Pack) (a : List Int) (i : Nat) (k : Int) (l : List Fault) : List Fault := if (a.take i).any (fun o => seq (pat c o).Name (pat c k).Name) then l ++ [{ Kind := 1,Pack := k,At := 0 }] else l

def fS (c : List Pack) (a : List Int) (i : Nat) (l : List Fault) (k : Int) : List Fault := foldI (fB c a k) 0 (pat c k).Bars (foldI (fN c a k) 0 (pat c k).Needs (fD c a i k l))

/-- The faults of a set. -/
def faultsL (c : List Pack) (a : List Int) : List Fault := foldI (fS c a) 0 a []

theorem fN_len (c : List Pack) (a : List Int) (k : Int) (j : Nat) (l : List Fault) (x : List Term) : (fN c a k j l x).length ≤ l.length + 1 := by unfold fN; split <;> simp

theorem fB_len (c : List Pack) (a : List Int) (k : Int) (j : Nat) (l : List Fault) (t : Term) : (fB c a k j l t).length ≤ l.length + 1 := by unfold fB; split <;> simp

theorem fD_len (c : List Pack) (a : List Int) (i : Nat) (k : Int) (l : List Fault) : (fD c a i k l).length ≤ l.length + 1 := by unfold fD; split <;> simp

theorem needs_loop {c : List Pack} {a : List Int} (k : Int) (ns : List (List Term)) (hn : ns.length ≤ 1048576) (n0 : Nat) (h0 : n0 ≤ 5497560000000) {b : (List Fault × Int) → Option (Lp (List Fault × Int) (List Fault))}
    (hstep : ∀ (j : Nat) (l : List Fault) (hj : j < ns.length),b (l,(j : Int)) = (if !(metB c a ns[j]) then (app 24 l [{ Kind := 2,Pack := k,At := (j : Int) }]) else some l).bind fun v => some (Lp.go (v,w64 ((j : Int) + 1)))) (hend : ∀ l,b (l,(ns.length : Int)) = some (.done l)) (l : List Fault) (hl : l.length ≤ n0) :
    loop b (l,0) = some (foldI (fN c a k) 0 ns l) ∧ (foldI (fN c a k) 0 ns l).length ≤ n0 + ns.length := by
  have key := loop_foldI ns (fN c a k) (fun j l => l.length ≤ n0 + j) (b := b) (by
    intro j l hj hI
    refine ⟨?_,by have := fN_len c a k j l ns[j]; omega⟩
    rw [hstep j l hj,w64_nat (by omega),app_of (by simp; omega) (by simp; omega)]
    unfold fN
    cases metB c a ns[j] <;> rfl) hend ns.length 0 l (by omega) (by simpa using hl)
  simpa using key

theorem bars_loop {c : List Pack} {a : List Int} (k : Int) (ts : List Term) (hn : ts.length ≤ 1048576) (n0 : Nat) (h0 : n0 ≤ 5497560000000) {b : (List Fault × Int) → Option (Lp (List Fault × Int) (List Fault))}
    (hstep : ∀ (j : Nat) (l : List Fault) (hj : j < ts.length),b (l,(j : Int)) = (if givenB c a ts[j] k then (app 24 l [{ Kind := 3,Pack := k,At := (j : Int) }]) else some l).bind fun v => some (Lp.go (v,w64 ((j : Int) + 1)))) (hend : ∀ l,b (l,(ts.length : Int)) = some (.done l)) (l : List Fault) (hl : l.length ≤ n0) :
    loop b (l,0) = some (foldI (fB c a k) 0 ts l) ∧ (foldI (fB c a k) 0 ts l).length ≤ n0 + ts.length := by
  have key := loop_foldI ts (fB c a k) (fun j l => l.length ≤ n0 + j) (b := b) (by
    intro j l hj hI
    refine ⟨?_,by have := fB_len c a k j l ts[j]; omega⟩
    rw [hstep j l hj,w64_nat (by omega),app_of (by simp; omega) (by simp; omega)]
    unfold fB
    cases givenB c a ts[j] k <;> rfl) hend ts.length 0 l (by omega) (by simpa using hl)
  simpa using key

theorem bind_id {α : Type} (o : Option α) : o.bind (fun x => some x) = o := by cases o <;> rfl

/-- The bound of the list of faults behind i members. -/
def fbound (i : Nat) : Nat := i * 2097153

theorem faults_spec {c : List Pack} {a : List Int} (hc : Cat c) (hp : Places c a) (ha : a.length ≤ 1048576) : spec_l3Faults c a = some (faultsL c a) := by
  have key := loop_foldI a (fS c a) (fun i l => l.length ≤ fbound i) (b := spec_l3Faults_l4b c a) (by
    intro i l hi hI
    have hk := hp _ (List.getElem_mem hi)
    have hb : fbound i ≤ 2199022206976 := by unfold fbound; omega
    have hb1 : fbound (i + 1) = fbound i + 2097153 := by unfold fbound; omega
    have hN := hc.needs hk
    have hB := hc.bars hk
    have k1 := loop_scanT (a.take i) (fun _ o => if seq (pat c o).Name (pat c a[i]).Name then some (l ++ [({ Kind := 1,Pack := a[i],At := 0 } : Fault)]) else none) l (b := spec_l3Faults_l1b c a (l,(i : Int)) (pat c a[i])) (by
      intro j hj
      have hj' : j < i := by simp at hj; omega
      have hja : j < a.length := by omega
      have hkj := hp _ (List.getElem_mem hja)
      unfold spec_l3Faults_l1b
      rw [if_pos (by simp; omega),idx_nat hja]
      simp only [Option.bind_some]
      rw [(pat_idx hkj).1,idx_nat hi]
      simp only [Option.bind_some]
      rw [w64_nat (by omega),app_of (by simp; omega) (by simp; omega),List.getElem_take]
      cases seq (pat c a[j]).Name (pat c a[i]).Name <;> rfl) (by
      have : (a.take i).length = i := by simp; omega
      rw [this]
      unfold spec_l3Faults_l1b
      rw [if_neg (by simp)]) (a.take i).length 0 (by omega)
    rw [List.drop_zero,scan_const] at k1
    have e1 : spec_l3Faults_l1 c a (l,(i : Int)) (pat c a[i]) 0 = some (fD c a i a[i] l) := by
      unfold spec_l3Faults_l1 fD
      rw [show ((0 : Nat) : Int) = 0 from rfl] at k1
      rw [k1]
      cases (a.take i).any (fun o => seq (pat c o).Name (pat c a[i]).Name) <;> rfl
    have hd := fD_len c a i a[i] l
    obtain ⟨e2,l2⟩ := needs_loop (c := c) (a := a) a[i] (pat c a[i]).Needs hN (fbound i + 1) (by omega) (b := spec_l3Faults_l2b c a (l,(i : Int)) (pat c a[i])) (by
      intro j l hj
      unfold spec_l3Faults_l2b
      rw [if_pos (by simp; omega),idx_nat hj]
      simp only [Option.bind_some]
      rw [met_spec hc hp ha _ (hc.clause hk (List.getElem_mem hj)),idx_nat hi]
      simp only [Option.bind_some,bind_id]) (by
      intro l
      unfold spec_l3Faults_l2b
      rw [if_neg (by simp)]) (fD c a i a[i] l) (by omega)
    obtain ⟨e3,l3⟩ := bars_loop (c := c) (a := a) a[i] (pat c a[i]).Bars hB (fbound i + 1 + 1048576) (by omega) (b := spec_l3Faults_l3b c a (l,(i : Int)) (pat c a[i])) (by
      intro j l hj
      unfold spec_l3Faults_l3b
      rw [if_pos (by simp; omega),idx_nat hj,idx_nat hi]
      simp only [Option.bind_some,given_spec hc hp ha,bind_id]) (by
      intro l
      unfold spec_l3Faults_l3b
      rw [if_neg (by simp)]) _ (Nat.le_trans l2 (by omega))
    refine ⟨?_,by show (fS c a i l a[i]).length ≤ _; unfold fS; omega⟩
    unfold spec_l3Faults_l4b
    rw [if_pos (by simp; omega),idx_nat hi]
    simp only [Option.bind_some]
    rw [(pat_idx hk).1]
    simp only [Option.bind_some]
    rw [e1]
    simp only [Option.bind_some]
    unfold spec_l3Faults_l2 spec_l3Faults_l3
    rw [e2]
    simp only [Option.bind_some]
    rw [e3,w64_nat (by omega)]
    rfl) (by
    intro l
    unfold spec_l3Faults_l4b
    rw [if_neg (by simp)]) a.length 0 [] (by omega) (by simp)
  unfold spec_l3Faults spec_l3Faults_l4 faultsL
  have k := key.1
  rw [show ((0 : Nat) : Int) = 0 from rfl,List.drop_zero] at k
  rw [k]
  rfl

theorem scan_val (q : Int → Bool) : ∀ (xs : List Int) (i : Nat),(∀ k ∈ xs,0 ≤ k) → (((scanL (fun _ k => if q k then some k else none) i xs).getD (-1) ≥ 0) ↔ xs.any q = true)
  | [],i,_ => by simp [scanL]
  | x :: xs,i,h => by
    simp only [scanL]
    cases hq : q x
    · simp only [Bool.false_eq_true,if_false,List.any_cons,hq,Bool.false_or]
      exact scan_val q xs (i + 1) (fun k hk => h k (by simp [hk]))
    · have := h x (by simp)
      simp [hq]
      omega

theorem named_impl {c : List Pack} {a : List Int} (hp : Places c a) (ha : a.length ≤ 1048576) (n : ByteArray) : ∃ k,impl_named c a n = some k ∧ decide (k ≥ 0) = a.any (fun o => seq (pat c o).Name n) := by
  have key := loop_scan a (fun _ k => if seq (pat c k).Name n then some k else none) (b := impl_named_l1b c a n) (by
    intro i hi
    have hk := hp _ (List.getElem_mem hi)
    unfold impl_named_l1b
    rw [if_pos (by simp; omega),idx_nat hi]
    simp only [Option.bind_some]
    rw [(pat_idx hk).1]
    simp only [Option.bind_some]
    rw [w64_nat (by omega)]
    cases seq (pat c a[i]).Name n <;> rfl) (by
    unfold impl_named_l1b
    rw [if_neg (by simp)])
  refine ⟨_,?_,place_ge (scan_val (fun o => seq (pat c o).Name n) a 0 (fun k hk => (hp k hk).1))⟩
  unfold impl_named impl_named_l1
  rw [key,frs_go]
  cases scanL (fun _ k => if seq (pat c k).Name n then some k else none) 0 a <;> rfl

theorem faults_impl {c : List Pack} {a : List Int} (hc : Cat c) (hp : Places c a) (ha : a.length ≤ 1048576) : impl_faults c a = some (faultsL c a) := by
  have key := loop_foldI a (fS c a) (fun i l => l.length ≤ fbound i) (b := impl_faults_l3b c a) (by
    intro i l hi hI
    have hk := hp _ (List.getElem_mem hi)
    have hb : fbound i ≤ 2199022206976 := by unfold fbound; omega
    have hb1 : fbound (i + 1) = fbound i + 2097153 := by unfold fbound; omega
    have hN := hc.needs hk
    have hB := hc.bars hk
    obtain ⟨kk,e0,hkk⟩ := named_impl (c := c) (a := a.take i) (fun k hk => hp k (List.mem_of_mem_take hk)) (by simp; omega) (pat c a[i]).Name
    have hd := fD_len c a i a[i] l
    obtain ⟨e2,l2⟩ := needs_loop (c := c) (a := a) a[i] (pat c a[i]).Needs hN (fbound i + 1) (by omega) (b := impl_faults_l1b c a (l,(i : Int)) a[i] (pat c a[i])) (by
      intro j l hj
      unfold impl_faults_l1b
      rw [if_pos (by simp; omega),idx_nat hj]
      simp only [Option.bind_some]
      rw [met_impl hc hp ha _ (hc.clause hk (List.getElem_mem hj))]
      simp only [Option.bind_some,bind_id]) (by
      intro l
      unfold impl_faults_l1b
      rw [if_neg (by simp)]) (fD c a i a[i] l) (by omega)
    obtain ⟨e3,l3⟩ := bars_loop (c := c) (a := a) a[i] (pat c a[i]).Bars hB (fbound i + 1 + 1048576) (by omega) (b := impl_faults_l2b c a (l,(i : Int)) a[i] (pat c a[i])) (by
      intro j l hj
      unfold impl_faults_l2b
      rw [if_pos (by simp; omega),idx_nat hj]
      simp only [Option.bind_some,given_impl hc hp ha,bind_id]) (by
      intro l
      unfold impl_faults_l2b
      rw [if_neg (by simp)]) _ (Nat.le_trans l2 (by omega))
    refine ⟨?_,by show (fS c a i l a[i]).length ≤ _; unfold fS; omega⟩
    unfold impl_faults_l3b
    rw [if_pos (by simp; omega),idx_nat hi]
    simp only [Option.bind_some]
    rw [(pat_idx hk).1,take_sub (by omega)]
    simp only [Option.bind_some]
    rw [e0]
    simp only [Option.bind_some]
    rw [hkk,app_of (by simp; omega) (by simp; omega)]
    simp only [Option.bind_some]
    have ed : (if (a.take i).any (fun o => seq (pat c o).Name (pat c a[i]).Name) = true then some (l ++ [({ Kind := 1,Pack := a[i],At := 0 } : Fault)]) else some l) = some (fD c a i a[i] l) := by
      unfold fD
      cases (a.take i).any (fun o => seq (pat c o).Name (pat c a[i]).Name) <;> rfl
    rw [ed]
    simp only [Option.bind_some]
    unfold impl_faults_l1 impl_faults_l2
    rw [e2]
    simp only [Option.bind_some]
    rw [e3,w64_nat (by omega)]
    rfl) (by
    intro l
    unfold impl_faults_l3b
    rw [if_neg (by simp)]) a.length 0 [] (by omega) (by simp)
  unfold impl_faults impl_faults_l3 faultsL
  have k := key.1
  rw [show ((0 : Nat) : Int) = 0 from rfl,List.drop_zero] at k
  rw [k]
  rfl

/-! ### Sets that hold -/
def conB (c : List Pack) (a : List Int) : Bool := (SF c a == 0) && ((faultsL c a).length : Int) == 0

theorem consistent_impl {c : List Pack} {a : List Int} (hc : Cat c) (ha : a.length ≤ 1048576) (h : (SF c a == 0) = true) : impl_consistent c a = some (conB c a) := by
  unfold impl_consistent conB
  rw [faults_impl hc (SF_places h) ha,h]
  simp

/-! ### The path of a package -/
theorem PF_zero {p : Pack} (h : PF p = 0) : NF p.Name = 0 ∧ VF p.Version = 0 ∧ inB p.Size 1 200 = true := by
  unfold PF at h
  split at h
  · rename_i h1; simp [h] at h1
  rename_i h1
  split at h
  · rename_i h2; simp [h] at h2
  rename_i h2
  split at h
  · cases h
  rename_i h3
  exact ⟨by simpa using h1,by simpa using h2,by simpa using h3⟩

/-- The path of a package. -/
def pathS (p : Pack) : ByteArray := bs [112,107,103,47] ++ (p.Name ++ (bs [45] ++ verS p.Version))

theorem l8Path_spec {p : Pack} (h1 : NF p.Name = 0) (h2 : VF p.Version = 0) : spec_l8Path p = some (pathS p) := by
  have a1 := NF_size h1
  have a2 := verS_size h2
  have b1 : (bs [112,107,103,47]).size = 4 := rfl
  have b2 : (bs [45]).size = 1 := rfl
  unfold spec_l8Path pathS
  rw [FormatVersion_spec h2,cat_of (by omega)]
  simp only [Option.bind_some]
  rw [cat_of (by rw [ba_size]; omega)]
  simp only [Option.bind_some]
  rw [cat_of (by simp only [ba_size]; omega)]
  simp only [Option.bind_some,ba_assoc]

theorem path_impl {p : Pack} (h1 : NF p.Name = 0) (h2 : VF p.Version = 0) : impl_Pack_path p = some (pathS p) := by
  have a1 := NF_size h1
  have a2 := verS_size h2
  have b1 : (bs [112,107,103,47]).size = 4 := rfl
  have b2 : (bs [45]).size = 1 := rfl
  unfold impl_Pack_path pathS
  rw [text_impl h2,cat_of (by omega)]
  simp only [Option.bind_some]
  rw [cat_of (by rw [ba_size]; omega)]
  simp only [Option.bind_some]
  rw [cat_of (by simp only [ba_size]; omega)]
  simp only [Option.bind_some,ba_assoc]

/-! ### The path of a generation -/
theorem decL_pad : ∀ (k n : Nat),n < 10 ^ (k + 1) → decL (10 ^ (k + 1) + n) = 49 :: (List.replicate (k + 1 - (decL n).length) 48 ++ decL n)
  | 0,n,h => by
    have h' : n < 10 := by simpa using h
    rw [decL_big (by simp),show (10 ^ (0 + 1) + n) / 10 = 1 by simp; omega,show (10 ^ (0 + 1) + n) % 10 = n by simp; omega,decL_small (n := 1) (by omega),decL_small h']
    rfl
  | k + 1,n,h => by
    have hp : 1 ≤ 10 ^ k := Nat.one_le_pow _ _ (by omega)
    have e1 : 10 ^ (k + 1 + 1) = 10 * 10 ^ (k + 1) := by rw [Nat.pow_succ]; omega
    rw [e1] at h
    have hq : n / 10 < 10 ^ (k + 1) := by omega
    have ih := decL_pad k (n / 10) hq
    have hl := decL_le k (n / 10) hq
    rw [e1,decL_big (by omega),show (10 * 10 ^ (k + 1) + n) / 10 = 10 ^ (k + 1) + n / 10 by omega,show (10 * 10 ^ (k + 1) + n) % 10 = n % 10 by omega,ih]
    by_cases hn : n < 10
    · rw [show n / 10 = 0 by omega,decL_small (n := 0) (by omega),decL_small hn,show n % 10 = n by omega]
      simp only [List.length_singleton,List.cons_append,List.append_assoc,List.nil_append]
      rw [show k + 1 + 1 - 1 = k + 1 by omega,show k + 1 - 1 = k by omega]
      rw [show List.replicate (k + 1) (48 : Int) = List.replicate k 48 ++ [48] from List.replicate_succ']
      simp
    · rw [decL_big hn,List.length_append]
      simp only [List.length_singleton,List.cons_append,List.append_assoc]
      rw [show k + 1 + 1 - ((decL (n / 10)).length + 1) = k + 1 - (decL (n / 10)).length by omega]

theorem bl_mk (l : List UInt8) : bl ⟨l.toArray⟩ = l.map (fun b => (b.toNat : Int)) := by
  unfold bl
  rw [ByteArray.toList_eq]

theorem repeat_rep (u : UInt8) : ∀ (n : Nat),Lib.repeatL [u] n = List.replicate n u
  | 0 => rfl
  | n + 1 => by rw [Lib.repeatL,repeat_rep u n,List.replicate_succ]; rfl

/-- The path of a generation,as bytes. -/
def genL (n : Int) : List Int := [103,101,110,47] ++ (List.replicate (6 - (decL n.toNat).length) 48 ++ decL n.toNat)

theorem toList_bs (l : List UInt8) : (bs l).data.toList = l := rfl

/-- The path of a generation. -/
def genS (n : Int) : ByteArray := bs [103,101,110,47] ++ (⟨(List.replicate (6 - (decL n.toNat).length) (48 : UInt8)).toArray⟩ ++ decS n.toNat)

theorem bl_genS (n : Int) : bl (genS n) = genL n := by
  unfold genS genL
  rw [bl_append,bl_append,bl_bs,bl_mk,bl_decS,List.map_replicate]
  rfl

theorem decL_six {n : Nat} (h : n ≤ 999999) : 1 ≤ (decL n).length ∧ (decL n).length ≤ 6 := by
  refine ⟨?_,decL_le 5 n (by omega)⟩
  by_cases hn : n < 10
  · rw [decL_small hn]; simp
  · rw [decL_big hn,List.length_append]; simp

theorem ssub_of {s : ByteArray} {l h : Nat} (h1 : l ≤ h) (h2 : h ≤ s.size) : ssub s (l : Int) (h : Int) = some (s.extract l h) := by
  unfold ssub
  rw [if_pos (by omega)]
  rfl

theorem genPath_impl {n : Int} (h0 : 0 ≤ n) (h1 : n ≤ 999999) : impl_genPath n = some (genS n) := by
  have hd := decL_six (n := n.toNat) (by omega)
  have hs : (decS n.toNat).size = (decL n.toNat).length := by rw [← bl_length,bl_decS]
  have hf := FormatInt_eq n.toNat (by omega)
  rw [Int.toNat_of_nonneg h0] at hf
  have h4 : (bs [103,101,110,47]).size = 4 := rfl
  unfold impl_genPath impl_dec
  rw [hf]
  simp only [Option.bind_some]
  rw [hs,w64_of (by omega) (by omega)]
  unfold strings_Repeat
  rw [if_pos ⟨by omega,by omega,by rw [show (bs [48]).size = 1 from rfl]; omega⟩,toList_bs,repeat_rep]
  simp only [Option.bind_some]
  have hr : (⟨(List.replicate (6 - ((decL n.toNat).length : Int)).toNat (48 : UInt8)).toArray⟩ : ByteArray).size = 6 - (decL n.toNat).length := by
    rw [← bl_length,bl_mk]
    simp
  rw [cat_of (by rw [hr]; omega)]
  simp only [Option.bind_some]
  rw [cat_of (by rw [ba_size,hr]; omega)]
  unfold genS
  rw [show (6 - ((decL n.toNat).length : Int)).toNat = 6 - (decL n.toNat).length by omega]
  simp only [Option.bind_some,ba_assoc]

theorem GenPath_spec (n : Int) : spec_GenPath n = some (if inB n 1 999999 then genS n else bs []) := by
  unfold spec_GenPath
  rw [l1In_eq]
  simp only [Option.bind_some]
  cases h : inB n 1 999999
  · rfl
  have h' : 1 ≤ n ∧ n ≤ 999999 := by simpa [inB] using h
  rw [if_neg (by simp),w64_of (by omega) (by omega)]
  have e := l1Decimal_eq (1000000 + n.toNat) (by omega)
  rw [show ((1000000 + n.toNat : Nat) : Int) = 1000000 + n by omega] at e
  rw [e]
  simp only [Option.bind_some]
  have hp := decL_pad 5 n.toNat (by omega)
  rw [show 10 ^ (5 + 1) + n.toNat = 1000000 + n.toNat by omega] at hp
  have hd := decL_six (n := n.toNat) (by omega)
  have hz : (decS (1000000 + n.toNat)).size = 7 := by
    rw [← bl_length,bl_decS,hp]
    simp
    omega
  have e2 := ssub_of (s := decS (1000000 + n.toNat)) (l := 1) (h := (decS (1000000 + n.toNat)).size) (by omega) (Nat.le_refl _)
  rw [show ((1 : Nat) : Int) = 1 from rfl] at e2
  rw [e2]
  simp only [Option.bind_some]
  have hx : ((decS (1000000 + n.toNat)).extract 1 (decS (1000000 + n.toNat)).size).size = 6 := by
    rw [← bl_length,bl_extract,bl_decS,hp,hz]
    simp
    omega
  rw [cat_of (by rw [hx]; decide)]
  simp only [Option.bind_some,if_true]
  congr 1
  refine bl_inj.1 ?_
  rw [bl_append,bl_extract,bl_decS,hp,bl_genS,bl_bs,hz]
  unfold genL
  rw [List.take_of_length_le (by simp; omega)]
  rfl

/-! ### Right catalogs,right sets -/
theorem scan_nz {α : Type} {g : Nat → α → Option Int} (hg : ∀ i x,g i x ≠ some 0) : ∀ (l : List α) (i : Nat),(scanL g i l).getD 0 = 0 → scanL g i l = none
  | [],_,_ => rfl
  | x :: l,i,h => by
    simp only [scanL] at h ⊢
    cases hx : g i x with
    | none => rw [hx] at h; exact scan_nz hg l (i + 1) h
    | some r =>
      rw [hx] at h
      simp only [Option.getD_some] at h
      subst h
      exact absurd hx (hg i x)

theorem CF_zero {c : List Pack} (h : CF c = 0) : c.length ≤ 24 ∧ (∀ p ∈ c,PF p = 0) ∧ ∀ (j : Nat) (hj : j < c.length),(c.take j).any (isB c[j].Name c[j].Version) = false := by
  unfold CF at h
  split at h
  · cases h
  rename_i h1
  have h2 := scan_nz (g := catG c) (fun i x => by
    unfold catG
    split
    · rename_i h3
      intro e
      rw [Option.some.inj e] at h3
      simp at h3
    · split <;> simp) c 0 h
  rw [scan_none] at h2
  have h3 : ∀ (j : Nat) (hj : j < c.length),PF c[j] = 0 ∧ (c.take j).any (isB c[j].Name c[j].Version) = false := by
    intro j hj
    have := h2 j hj
    unfold catG at this
    rw [Nat.zero_add] at this
    split at this
    · cases this
    · rename_i h4
      split at this
      · cases this
      · rename_i h5
        exact ⟨by simpa using h4,by simpa using h5⟩
  refine ⟨by simp at h1; omega,fun p hp => ?_,fun j hj => (h3 j hj).2⟩
  obtain ⟨j,hj,rfl⟩ := List.getElem_of_mem hp
  exact (h3 j hj).1

theorem rise_pair {a : List Int} (h : ∀ i,(hi : i + 1 < a.length) → a[i] < a[i + 1]) : a.Pairwise (· < ·) := by
  rw [List.pairwise_iff_getElem]
  intro i j hi hj hij
  obtain ⟨d,rfl⟩ : ∃ d,j = i + 1 + d := ⟨j - i - 1,by omega⟩
  clear hij
  induction d with
  | zero => exact h i (by omega)
  | succ d ih =>
    have h1 := ih (by omega)
    have h2 := h (i + 1 + d) (by omega)
    show a[i] < a[i + 1 + d + 1]
    omega

theorem rise_len : ∀ {a : List Int} {lo hi : Int},a.Pairwise (· < ·) → (∀ k ∈ a,lo ≤ k ∧ k < hi) → (a.length : Int) ≤ hi - lo ∨ a = []
  | [],_,_,_,_ => .inr rfl
  | x :: a,lo,hi,hp,hb => by
    obtain ⟨h1,h2⟩ := List.pairwise_cons.1 hp
    have hx := hb x (by simp)
    have := rise_len (lo := x + 1) (hi := hi) h2 (fun k hk => ⟨by have := h1 k hk; omega,(hb k (by simp [hk])).2⟩)
    refine .inl ?_
    rcases this with h3 | h3
    · simp only [List.length_cons]; omega
    · subst h3; simp; omega

theorem setB_spec {c : List Pack} {a : List Int} : setB c a = true ↔ a.Pairwise (· < ·) ∧ Places c a := by
  unfold setB
  rw [Option.isNone_iff_eq_none,scan_none]
  constructor
  · intro h
    have h1 : ∀ (j : Nat) (hj : j < a.length),inB a[j] 0 ((c.length : Int) - 1) = true ∧ (0 < j → ¬ a[j] ≤ a.getD (j - 1) 0) := by
      intro j hj
      have := h j hj
      unfold setG at this
      rw [Nat.zero_add] at this
      split at this
      · cases this
      · rename_i h2
        simp only [Bool.or_eq_true,Bool.not_eq_true',Bool.and_eq_true,decide_eq_true_eq,not_or,not_and,Bool.not_eq_false] at h2
        exact h2
    refine ⟨rise_pair fun i hi => ?_,fun k hk => ?_⟩
    · have := (h1 (i + 1) hi).2 (by omega)
      rw [show i + 1 - 1 = i by omega,getD_lt (by omega)] at this
      omega
    · obtain ⟨j,hj,rfl⟩ := List.getElem_of_mem hk
      have := (h1 j hj).1
      unfold inB at this
      simp only [Bool.and_eq_true,decide_eq_true_eq] at this
      omega
  · rintro ⟨h1,h2⟩ j hj
    unfold setG
    rw [Nat.zero_add]
    have hk := h2 a[j] (List.getElem_mem hj)
    rw [if_neg]
    simp only [Bool.or_eq_true,Bool.not_eq_true',Bool.and_eq_true,decide_eq_true_eq,not_or,not_and,Bool.not_eq_false]
    refine ⟨by unfold inB; simp; omega,fun h0 => ?_⟩
    rw [getD_lt (by omega)]
    have := (List.pairwise_iff_getElem.1 h1) (j - 1) j (by omega) hj (by omega)
    omega

theorem bl_toList (s : ByteArray) : s.data.toList.map (fun b => (b.toNat : Int)) = bl s := by
  unfold bl
  rw [ByteArray.toList_eq]

/-! ### The bytes of a package -/
theorem u8w (x : Int) : IntKind.u8.wrap x = x % 256 := by
  simp only [IntKind.wrap,IntKind.signed,IntKind.bits]
  simp

def nameSum (p : Pack) : Int := p.Version.A + p.Version.B + p.Version.C + (bl p.Name).foldl (· + ·) 0

/-- The bytes,one behind the other. -/
def bseq (b0 : Int) : Nat → Int
  | 0 => b0
  | i + 1 => (31 * bseq b0 i + 7) % 256

def packL (p : Pack) : List Int := (List.range p.Size.toNat).map (bseq (nameSum p % 256))

theorem bseq_range {b0 : Int} (h : 0 ≤ b0 ∧ b0 < 256) : ∀ i,0 ≤ bseq b0 i ∧ bseq b0 i < 256
  | 0 => h
  | i + 1 => by unfold bseq; omega

theorem foldl_add0 : ∀ (l : List Int) (a : Int),l.foldl (· + ·) a = a + l.foldl (· + ·) 0
  | [],a => by simp
  | x :: l,a => by
    simp only [List.foldl_cons]
    rw [foldl_add0 l (a + x),foldl_add0 l (0 + x)]
    omega

theorem foldI_add : ∀ (l : List Int) (i : Nat) (a : Int),foldI (fun _ a x => a + x) i l a = a + l.foldl (· + ·) 0
  | [],_,a => by simp [foldI]
  | x :: l,i,a => by
    simp only [foldI,List.foldl_cons]
    rw [foldI_add l (i + 1) (a + x),foldl_add0 l (0 + x)]
    omega

theorem foldI_mod : ∀ (l : List Int) (i : Nat) (a b : Int),b = a % 256 → foldI (fun _ a x => (a + x) % 256) i l b = (a + l.foldl (· + ·) 0) % 256
  | [],_,a,b,h => by simp [foldI,h]
  | x :: l,i,a,b,h => by
    simp only [foldI,List.foldl_cons]
    rw [foldI_mod l (i + 1) (a + x) ((b + x) % 256) (by rw [h]; omega),foldl_add0 l (0 + x)]
    congr 1
    omega

theorem l2Bytes_spec {p : Pack} (h1 : NF p.Name = 0) (h2 : VF p.Version = 0) (h3 : 1 ≤ p.Size ∧ p.Size ≤ 200) : spec_l2Bytes p = some (packL p) := by
  obtain ⟨v1,v2,v3⟩ := VF_zero h2
  have hn := NF_size h1
  have hlen : (bl p.Name).length ≤ 12 := by rw [bl_length]; omega
  have k1 := loop_foldI (bl p.Name) (fun _ a x => a + x) (fun i a => 0 ≤ a ∧ a ≤ 3000 + i * 255) (b := spec_l2Bytes_l1b p) (by
    intro i a hi ha
    have hr := bl_range (bl p.Name)[i] (List.getElem_mem hi)
    unfold spec_l2Bytes_l1b
    rw [if_pos (by rw [bl_length] at hi; simp; omega)]
    simp only
    rw [bidx_nat hi]
    simp only [Option.bind_some]
    rw [w64_of (x := (bl p.Name)[i]) (by omega) (by omega),w64_of (by omega) (by omega),w64_nat (by omega)]
    exact ⟨rfl,by omega,by omega⟩) (by
    intro a
    unfold spec_l2Bytes_l1b
    rw [if_neg (by rw [bl_length]; simp)]) (bl p.Name).length 0 (p.Version.A + p.Version.B + p.Version.C) (by omega) ⟨by omega,by omega⟩
  rw [List.drop_zero,foldI_add] at k1
  obtain ⟨e1,b1,b2⟩ := k1
  have hb : 0 ≤ nameSum p ∧ nameSum p ≤ 3000 + 12 * 255 := by
    unfold nameSum
    omega
  obtain ⟨t,e2,rfl⟩ := loop_up (b := spec_l2Bytes_l2b p) (fun i s => s.2.2 = (i : Int) ∧ s.2.1 = (List.range i).map (bseq (nameSum p % 256)) ∧ 0 ≤ s.1 ∧ s.1 ≤ 10000 ∧ s.1 % 256 = bseq (nameSum p % 256) i) p.Size.toNat (fun t => t = packL p) (by
    rintro i ⟨n,out,j⟩ hi ⟨hj,ho,h4,h5,h6⟩
    simp only at hj ho h4 h5 h6
    subst hj ho
    unfold spec_l2Bytes_l2b
    rw [if_pos (by simp; omega)]
    simp only
    have ht : n.tmod 256 = n % 256 := Int.tmod_eq_emod_of_nonneg h4
    rw [ht,u8w,app_of (by simp; omega) (by simp; omega)]
    simp only [Option.bind_some]
    rw [w64_of (x := 31 * (n % 256)) (by omega) (by omega),w64_of (by omega) (by omega),w64_nat (by omega)]
    refine .inl ⟨_,rfl,rfl,?_,by omega,by omega,?_⟩
    · simp only
      rw [List.range_succ,List.map_append,show n % 256 % 256 = bseq (nameSum p % 256) i by omega]
      rfl
    · simp only [bseq]
      rw [← h6]) (by
    rintro ⟨n,out,j⟩ ⟨hj,ho,_⟩
    simp only at hj ho
    subst hj ho
    unfold spec_l2Bytes_l2b
    rw [if_neg (by simp; omega)]
    exact ⟨_,rfl,rfl⟩) p.Size.toNat 0 (nameSum p,([] : List Int),0) (by omega) ⟨rfl,rfl,hb.1,by omega,rfl⟩
  unfold spec_l2Bytes
  rw [w64_of (x := p.Version.A + p.Version.B) (by omega) (by omega),w64_of (x := p.Version.A + p.Version.B + p.Version.C) (by omega) (by omega)]
  unfold spec_l2Bytes_l1
  rw [show ((0 : Nat) : Int) = 0 from rfl] at e1
  rw [e1]
  simp only [Option.bind_some]
  unfold spec_l2Bytes_l2
  unfold nameSum at e2
  rw [e2]
  rfl

theorem bytes_impl {p : Pack} (h1 : NF p.Name = 0) (h2 : VF p.Version = 0) (h3 : 1 ≤ p.Size ∧ p.Size ≤ 200) : impl_Pack_bytes p = some (packL p) := by
  obtain ⟨v1,v2,v3⟩ := VF_zero h2
  have hn := NF_size h1
  have hlen : (bl p.Name).length ≤ 12 := by rw [bl_length]; omega
  have k1 := loop_foldI (bl p.Name) (fun _ a x => (a + x) % 256) (fun i a => True) (b := impl_Pack_bytes_l1b p) (by
    intro i a hi ha
    unfold impl_Pack_bytes_l1b
    rw [if_pos (by rw [bl_length] at hi; simp; omega)]
    simp only
    rw [bidx_nat hi]
    simp only [Option.bind_some,u8w]
    rw [w64_nat (by omega)]
    exact ⟨rfl,trivial⟩) (by
    intro a
    unfold impl_Pack_bytes_l1b
    rw [if_neg (by rw [bl_length]; simp)]) (bl p.Name).length 0 ((p.Version.A + p.Version.B + p.Version.C) % 256) (by omega) trivial
  rw [List.drop_zero,foldI_mod _ _ (p.Version.A + p.Version.B + p.Version.C) _ rfl] at k1
  have hb : 0 ≤ nameSum p % 256 ∧ nameSum p % 256 < 256 := by omega
  obtain ⟨t,e2,rfl⟩ := loop_up (b := impl_Pack_bytes_l2b p) (fun i s => s.2.2 = (i : Int) ∧ s.2.1 = (List.range i).map (bseq (nameSum p % 256)) ∧ s.1 = bseq (nameSum p % 256) i) p.Size.toNat (fun t => t = packL p) (by
    rintro i ⟨n,out,j⟩ hi ⟨hj,ho,h6⟩
    simp only at hj ho h6
    subst hj ho h6
    have hr := bseq_range hb i
    unfold impl_Pack_bytes_l2b
    rw [if_pos (by simp; omega)]
    simp only
    rw [app_of (by simp; omega) (by simp; omega)]
    simp only [Option.bind_some,u8w]
    rw [w64_nat (by omega)]
    refine .inl ⟨_,rfl,rfl,?_,?_⟩
    · simp only
      rw [List.range_succ,List.map_append]
      rfl
    · simp only [bseq]
      omega) (by
    rintro ⟨n,out,j⟩ ⟨hj,ho,_⟩
    simp only at hj ho
    subst hj ho
    unfold impl_Pack_bytes_l2b
    rw [if_neg (by simp; omega)]
    exact ⟨_,rfl,rfl⟩) p.Size.toNat 0 (nameSum p % 256,([] : List Int),0) (by omega) ⟨rfl,rfl,rfl⟩
  unfold impl_Pack_bytes
  simp only [u8w]
  rw [show ((p.Version.A % 256 + p.Version.B % 256) % 256 + p.Version.C % 256) % 256 = (p.Version.A + p.Version.B + p.Version.C) % 256 by omega]
  unfold impl_Pack_bytes_l1
  rw [show ((0 : Nat) : Int) = 0 from rfl] at k1
  rw [k1.1]
  simp only [Option.bind_some]
  unfold impl_Pack_bytes_l2
  unfold nameSum at e2
  rw [e2]
  rfl

theorem packL_range (p : Pack) : ∀ x ∈ packL p,0 ≤ x ∧ x ≤ 255 := by
  intro x hx
  unfold packL at hx
  obtain ⟨i,_,rfl⟩ := List.mem_map.1 hx
  have := bseq_range (b0 := nameSum p % 256) (by omega) i
  omega

/-! ### What is lacking -/
def fileOf (d : Disk) (p : ByteArray) : Option File := d.Files.find? (fun f => decide (f.Path = p))

def lackB (c : List Pack) (d : Disk) (k : Int) : Bool := match fileOf d (pathS (pat c k)) with
  | none => true
  | some f => decide (f.Data ≠ packL (pat c k))

def lackL (c : List Pack) (d : Disk) (a : List Int) : List Int := a.filter (lackB c d)

/-- The bytes of files are bytes. -/
def Byt (d : Disk) : Prop := ∀ f ∈ d.Files,∀ c ∈ f.Data,0 ≤ c ∧ c ≤ 255

theorem b2s_inj {a b : List Int} (ha : ∀ c ∈ a,0 ≤ c ∧ c ≤ 255) (hb : ∀ c ∈ b,0 ≤ c ∧ c ≤ 255) : seq (b2s a) (b2s b) = decide (a = b) := by
  rw [seq_bl,bl_b2s ha,bl_b2s hb]

theorem EqualB_impl (a b : List Int) (h : a.length ≤ 1048576) : slices_Equal_Lbyte a b = some (decide (a = b)) := by
  unfold slices_Equal_Lbyte
  by_cases hl : a.length = b.length
  · rw [if_neg (by simp [hl])]
    have key := loop_scan a (fun i x => if x != b.getD i 0 then some false else none) (b := slices_Equal_Lbyte_l1b a b) (by
      intro i hi
      unfold slices_Equal_Lbyte_l1b
      rw [if_pos (by simp; omega),idx_nat hi,idx_nat (show i < b.length by omega)]
      simp only [Option.bind_some,getD_lt (show i < b.length by omega)]
      rw [w64_nat (by omega)]
      cases a[i] != b[i] <;> rfl) (by
      unfold slices_Equal_Lbyte_l1b
      rw [if_neg (by simp)])
    unfold slices_Equal_Lbyte_l1
    rw [key,frs_go]
    by_cases he : a = b
    · have hn : scanL (fun i x => if x != b.getD i 0 then some false else none) 0 a = none := by
        rw [scan_none]
        intro j hj
        subst he
        rw [Nat.zero_add,getD_lt hj]
        simp
      rw [hn,decide_eq_true he]
    · rw [decide_eq_false he]
      cases hs : scanL (fun i x => if x != b.getD i 0 then some false else none) 0 a with
      | none =>
        rw [scan_none] at hs
        refine absurd (List.ext_getElem hl fun j h1 h2 => ?_) he
        have := hs j h1
        rw [Nat.zero_add,getD_lt h2] at this
        split at this
        · cases this
        · rename_i h3; simpa using h3
      | some r =>
        have : ∀ (l : List Int) (i : Nat),scanL (fun i x => if x != b.getD i 0 then some false else none) i l = some r → r = false := by
          intro l
          induction l with
          | nil => intro i h; cases h
          | cons x l ih =>
            intro i h
            simp only [scanL] at h
            by_cases hc : (x != b.getD i 0) = true
            · rw [if_pos hc] at h; exact (Option.some.inj h).symm
            · rw [if_neg hc] at h; exact ih _ h
        rw [this a 0 hs]
  · rw [if_pos (by simp; omega),decide_eq_false (fun e => hl (by rw [e]))]

theorem file_both (d : Disk) (p : ByteArray) (hg : d.good) :
    (∃ k : Nat,∃ hk : k < d.Files.length,spec_l7Find d p = some (k : Int) ∧ impl_Disk_data d p = some (d.Files[k].Data,true) ∧ fileOf d p = some d.Files[k]) ∨
      (spec_l7Find d p = some (-1) ∧ impl_Disk_data d p = some ([],false) ∧ fileOf d p = none) := by
  rcases data_both d p hg with ⟨k,hk,e1,e2,hp⟩ | ⟨e1,e2,hp⟩
  · exact .inl ⟨k,hk,e1,e2,find_of hg.sorted hk hp⟩
  · exact .inr ⟨e1,e2,find_none hp⟩

/-- All packages are right,with their sizes. -/
def Pkz (c : List Pack) : Prop := ∀ p ∈ c,NF p.Name = 0 ∧ VF p.Version = 0 ∧ (1 ≤ p.Size ∧ p.Size ≤ 200)

theorem CF_pkz {c : List Pack} (h : CF c = 0) : Pkz c := fun p hp => by
  obtain ⟨h1,h2,h3⟩ := PF_zero ((CF_zero h).2.1 p hp)
  refine ⟨h1,h2,?_⟩
  unfold inB at h3
  simpa using h3

theorem foldI_filter {α : Type} (q : α → Bool) : ∀ (l : List α) (i : Nat) (acc : List α),foldI (fun _ a x => if q x then a ++ [x] else a) i l acc = acc ++ l.filter q
  | [],_,acc => by simp [foldI]
  | x :: l,i,acc => by
    simp only [foldI]
    rw [foldI_filter q l (i + 1)]
    cases h : q x <;> simp [h]

section
variable {c : List Pack} {d : Disk} {a : List Int} (hc : Pkz c) (hg : d.good) (hb : Byt d) (hp : Places c a) (ha : a.length ≤ 1048576)
include hc hg hb hp ha in
theorem l8Lacking_spec : spec_l8Lacking c d a = some (lackL c d a) := by
  have key := loop_foldI a (fun _ l k => if lackB c d k then l ++ [k] else l) (fun i l => l.length ≤ i) (b := spec_l8Lacking_l1b c d a) (by
    intro i l hi hl
    have hm := List.getElem_mem hi
    obtain ⟨e1,e2⟩ := pat_idx (hp _ hm)
    obtain ⟨p1,p2,p3⟩ := hc _ e2
    unfold spec_l8Lacking_l1b
    rw [if_pos (by simp; omega)]
    simp only
    rw [idx_nat hi]
    simp only [Option.bind_some,e1,l8Path_spec p1 p2,l2Bytes_spec p1 p2 p3]
    rw [w64_nat (by omega),app_of (by simp; omega) (by simp; omega)]
    have hx : (if lackB c d a[i] then l ++ [a[i]] else l).length ≤ i + 1 := by
      split
      · simp; omega
      · omega
    refine ⟨?_,hx⟩
    have fin : ∀ v52 : Bool,v52 = lackB c d a[i] → ((if v52 = true then (some (l ++ [a[i]])) else (some l)).bind fun v58 => some (Lp.go (v58,((i + 1 : Nat) : Int)))) = (some (Lp.go ((if lackB c d a[i] = true then l ++ [a[i]] else l),((i + 1 : Nat) : Int))) : Option (Lp (List Int × Int) (List Int))) := by
      rintro _ rfl
      cases lackB c d a[i] <;> rfl
    rcases file_both d (pathS (pat c a[i])) hg with ⟨k,hk,f1,_,f3⟩ | ⟨f1,_,f3⟩
    · rw [f1]
      simp only [Option.bind_some]
      rw [if_neg (show ¬ decide ((k : Int) < 0) = true by simp),idx_nat hk]
      unfold spec_l8Same
      refine fin _ ?_
      unfold lackB
      rw [f3,b2s_inj (hb _ (List.getElem_mem hk)) (packL_range _)]
      simp
    · rw [f1]
      refine fin true ?_
      unfold lackB
      rw [f3]) (by
    intro l
    unfold spec_l8Lacking_l1b
    rw [if_neg (by simp)]) a.length 0 [] (by omega) (by simp)
  unfold spec_l8Lacking spec_l8Lacking_l1
  rw [show ((0 : Nat) : Int) = 0 from rfl] at key
  rw [key.1,List.drop_zero,foldI_filter]
  rfl
end

section
variable {c : List Pack} {d : Disk} {a : List Int} (hc : Pkz c) (hg : d.good) (hb : Byt d) (hp : Places c a) (ha : a.length ≤ 1048576)
include hc hg hp in
theorem lacking1_impl : ∀ k ∈ a,impl_lacking_1 k d c = some (lackB c d k) := by
  intro k hk
  obtain ⟨e1,e2⟩ := pat_idx (hp k hk)
  obtain ⟨p1,p2,p3⟩ := hc _ e2
  unfold impl_lacking_1
  rw [e1]
  simp only [Option.bind_some,path_impl p1 p2,bytes_impl p1 p2 p3]
  unfold lackB
  rcases file_both d (pathS (pat c k)) hg with ⟨q,hq,_,f2,f3⟩ | ⟨_,f2,f3⟩
  · rw [f2,f3]
    simp only [Option.bind_some]
    rw [if_neg (by simp),EqualB_impl _ _ (by have := hg.data _ (List.getElem_mem hq); omega)]
    simp
  · rw [f2,f3]
    rfl
end

section
variable {c : List Pack} {d : Disk} {a : List Int} (hc : Pkz c) (hg : d.good) (hb : Byt d) (hp : Places c a) (ha : a.length ≤ 1048576)
include hc hg hp ha in
theorem lacking_impl : impl_lacking c d a = some (lackL c d a) := by
  have h1 := lacking1_impl hc hg hp
  have h2 : ∀ k ∈ a,impl_those_1_impl_lacking_1 k d c = some (!(lackB c d k)) := by
    intro k hk
    unfold impl_those_1_impl_lacking_1
    rw [h1 k hk]
    rfl
  have key := del_gen (fun k => !(lackB c d k)) a (0 : Int) (by omega) (b1 := slices_IndexFunc_Lint64r_impl_those_1_impl_lacking_1_l1b a d c) (b2 := slices_DeleteFunc_Lint64r_impl_those_1_impl_lacking_1_l1b d c) (by
    intro i hi
    unfold slices_IndexFunc_Lint64r_impl_those_1_impl_lacking_1_l1b
    rw [if_pos (by simp; omega),idx_nat hi]
    simp only [Option.bind_some,h2 _ (List.getElem_mem hi)]
    rw [w64_nat (by omega)]
    split <;> rfl) (by
    unfold slices_IndexFunc_Lint64r_impl_those_1_impl_lacking_1_l1b
    rw [if_neg (by simp)]) (by
    intro xs i j hj hij hl hm
    unfold slices_DeleteFunc_Lint64r_impl_those_1_impl_lacking_1_l1b
    simp only
    rw [if_pos (by simp; omega),idx_nat hj]
    simp only [Option.bind_some,h2 _ hm]
    rw [idx_nat (show i < xs.length by omega),w64_nat (show j < _ by omega),w64_nat (show i < _ by omega)]
    cases lackB c d xs[j] <;> simp) (by
    intro xs i hl
    unfold slices_DeleteFunc_Lint64r_impl_those_1_impl_lacking_1_l1b
    rw [if_neg (by simp)])
  have hf : a.filter (fun x => !!(lackB c d x)) = lackL c d a := by simp [lackL]
  rw [hf] at key
  unfold impl_lacking impl_those_impl_lacking_1 slices_Clone_Lint64
  rw [app_of (by simp; omega) (by simp; omega)]
  simp only [Option.bind_some,List.nil_append]
  have e : slices_DeleteFunc_Lint64r_impl_those_1_impl_lacking_1 a d c = some (lackL c d a) := key
  rw [e]
  rfl
end

theorem firstCode2 (x y : Int) : impl_firstCode [x,y] = some (if x != 0 then x else y) := by
  unfold impl_firstCode impl_firstCode_l1
  rw [firstOf2 _ (by simp),frs_go]
  simp only [scanL]
  by_cases h : x = 0
  · by_cases h2 : y = 0 <;> simp [h,h2]
  · simp [h]

theorem Asked_spec {c : List Pack} {d : Disk} (hc : Cat c) : ∀ r,spec_DiskFault d = some r → spec_l8Asked c d = some (if CF c != 0 then CF c else r) := by
  intro r hr
  unfold spec_l8Asked
  rw [CatalogFault_spec c hc,hr]
  simp only [Option.bind_some]
  cases CF c != 0 <;> rfl

theorem both_impl {c : List Pack} {d : Disk} (hc : Cat c) : ∀ r,spec_DiskFault d = some r → impl_bothCode c d = some (if CF c != 0 then CF c else r) := by
  intro r hr
  unfold impl_bothCode
  rw [CatalogFault_impl c hc,DiskFault_same,hr]
  simp only [Option.bind_some,firstCode2]

/-! ### Texts cut at a byte -/
def cutL (c : Int) : List Int → List (List Int)
  | [] => [[]]
  | x :: l => if x = c then [] :: cutL c l else match cutL c l with
    | h :: t => (x :: h) :: t
    | [] => [[x]]

theorem cutL_ne (c : Int) : ∀ l,cutL c l ≠ []
  | [] => by simp [cutL]
  | x :: l => by
    unfold cutL
    split
    · simp
    · split <;> simp

theorem cutL_range {c : Int} : ∀ {l : List Int},(∀ x ∈ l,0 ≤ x ∧ x ≤ 255) → ∀ p ∈ cutL c l,∀ x ∈ p,0 ≤ x ∧ x ≤ 255
  | [],_ => by simp [cutL]
  | y :: l,h => by
    have ih := cutL_range (c := c) (l := l) (fun x hx => h x (by simp [hx]))
    intro p hp
    unfold cutL at hp
    split at hp
    · rcases List.mem_cons.1 hp with rfl | hp
      · simp
      · exact ih p hp
    · split at hp
      · rename_i a t e
        rcases List.mem_cons.1 hp with rfl | hp
        · intro x hx
          rcases List.mem_cons.1 hx with rfl | hx
          · exact h _ (by simp)
          · exact ih a (by rw [e]; simp) x hx
        · exact ih p (by rw [e]; simp [hp])
      · rename_i e
        exact absurd e (cutL_ne c l)

theorem cutL_length (c : Int) : ∀ l,(cutL c l).length ≤ l.length + 1
  | [] => by simp [cutL]
  | x :: l => by
    have ih := cutL_length c l
    unfold cutL
    split
    · simp; omega
    · split
      · rename_i e; rw [e] at ih; simp at ih ⊢; omega
      · simp

theorem cutL_size (c : Int) : ∀ l,∀ p ∈ cutL c l,p.length ≤ l.length
  | [] => by simp [cutL]
  | x :: l => by
    have ih := cutL_size c l
    intro p hp
    unfold cutL at hp
    split at hp
    · rcases List.mem_cons.1 hp with rfl | hp
      · simp
      · have := ih p hp; simp; omega
    · split at hp
      · rename_i a t e
        rcases List.mem_cons.1 hp with rfl | hp
        · have := ih a (by rw [e]; simp); simp; omega
        · have := ih p (by rw [e]; simp [hp]); simp; omega
      · simp at hp; rw [hp]; simp

/-- The parts,as texts. -/
def partsS (c : Int) (s : ByteArray) : List ByteArray := (cutL c (bl s)).map b2s

theorem partsS_bl (c : Int) (s : ByteArray) : (partsS c s).map bl = cutL c (bl s) := by
  unfold partsS
  rw [List.map_map]
  have : ∀ p ∈ cutL c (bl s),(bl ∘ b2s) p = id p := fun p hp => bl_b2s (cutL_range bl_range p hp)
  rw [List.map_congr_left this,List.map_id]

theorem map_bl_inj : ∀ {a b : List ByteArray},a.map bl = b.map bl → a = b
  | [],[],_ => rfl
  | [],_ :: _,h => by simp at h
  | _ :: _,[],h => by simp at h
  | x :: a,y :: b,h => by
    simp only [List.map_cons,List.cons.injEq] at h
    rw [bl_inj.1 h.1,map_bl_inj h.2]

theorem partsS_of {c : Int} {s : ByteArray} {ps : List ByteArray} (h : ps.map bl = cutL c (bl s)) : ps = partsS c s := map_bl_inj (h.trans (partsS_bl c s).symm)

/-! strings.Split at one byte -/
def cutU (c : UInt8) : List UInt8 → List (List UInt8)
  | [] => [[]]
  | x :: l => if x = c then [] :: cutU c l else match cutU c l with
    | h :: t => (x :: h) :: t
    | [] => [[x]]

theorem cutU_cutL (c : UInt8) : ∀ (l : List UInt8),(cutU c l).map (fun p => p.map (fun b => (b.toNat : Int))) = cutL (c.toNat : Int) (l.map (fun b => (b.toNat : Int)))
  | [] => rfl
  | x :: l => by
    have ih := cutU_cutL c l
    simp only [List.map_cons]
    unfold cutU cutL
    by_cases h : x = c
    · subst h
      rw [if_pos rfl,if_pos rfl,List.map_cons,ih]
      rfl
    · have h' : ¬ ((x.toNat : Int) = (c.toNat : Int)) := fun e => h (UInt8.toNat_inj.1 (by omega))
      rw [if_neg h,if_neg h',← ih]
      cases hc : cutU c l with
      | nil => rfl
      | cons a t => rfl

theorem cutU_none (c : UInt8) : ∀ (l : List UInt8),c ∉ l → cutU c l = [l]
  | [],_ => rfl
  | x :: l,h => by
    unfold cutU
    rw [if_neg (fun e => h (by simp [e])),cutU_none c l (fun e => h (by simp [e]))]

theorem index_one (c b : UInt8) (l : List UInt8) : Lib.index (b :: l) [c] = if b = c then 0 else if Lib.index l [c] == -1 then -1 else Lib.index l [c] + 1 := by
  rw [Lib.index]
  have : ([c].isPrefixOf (b :: l)) = decide (b = c) := by
    simp only [List.isPrefixOf,Bool.and_true]
    rw [Bool.eq_iff_iff,beq_iff_eq,decide_eq_true_eq]
    exact ⟨fun h => h.symm,fun h => h.symm⟩
  rw [this]
  by_cases h : b = c <;> simp [h]

theorem splitK_cut (c : UInt8) : ∀ (l : List UInt8) (k : Nat),l.count c ≤ k → Lib.splitK [c] 0 k l = cutU c l
  | [],k,_ => by
    cases k with
    | zero => rfl
    | succ k => rfl
  | b :: l,0,h => by
    have hn : c ∉ b :: l := List.count_eq_zero.1 (by omega)
    rw [cutU_none c _ hn]
    rfl
  | b :: l,k + 1,h => by
    unfold cutU
    by_cases hb : b = c
    · subst hb
      rw [if_pos rfl]
      have e : Lib.index (b :: l) [b] = 0 := by rw [index_one,if_pos rfl]
      rw [Lib.splitK,e]
      simp only [List.count_cons_self] at h
      rw [if_neg (by decide)]
      show [] :: Lib.splitK [b] 0 k ((b :: l).drop 1) = _
      rw [List.drop_one,List.tail_cons,splitK_cut b l k (by omega)]
    · rw [if_neg hb]
      have hc : l.count c ≤ k + 1 := by rw [List.count_cons_of_ne hb] at h; exact h
      have ih := splitK_cut c l (k + 1) hc
      rw [← ih,Lib.splitK,Lib.splitK,index_one,if_neg hb]
      cases hi : Lib.index l [c] == -1
      · have hge := Lib.index_ge l [c]
        have hne : Lib.index l [c] ≠ -1 := by simpa using hi
        have hne' : (Lib.index l [c] + 1 == -1) = false := by
          rw [beq_eq_false_iff_ne]; omega
        simp only [Bool.false_eq_true,if_false,hne']
        rw [show (Lib.index l [c] + 1).toNat = (Lib.index l [c]).toNat + 1 by omega]
        simp only [Nat.add_zero,List.length_singleton,List.take_succ_cons,List.drop_succ_cons]
      · simp

theorem Split_impl (s : ByteArray) (c : UInt8) (h : s.size ≤ 1048577) : strings_Split s ⟨#[c]⟩ = some (partsS (c.toNat : Int) s) := by
  unfold strings_Split
  rw [if_pos ⟨by omega,by show 1 ≤ 1; omega⟩]
  congr 1
  refine partsS_of ?_
  have e := Lib.splitB_data ⟨#[c]⟩ 0 (Lib.countB s ⟨#[c]⟩) s
  have e2 : Lib.countB s ⟨#[c]⟩ = s.data.toList.count c := Lib.count_one c s.data.toList
  rw [e2] at e ⊢
  rw [show (⟨#[c]⟩ : ByteArray).data.toList = [c] from rfl,splitK_cut c _ _ (Nat.le_refl _)] at e
  have e3 : ∀ ps : List ByteArray,ps.map bl = (ps.map (·.data.toList)).map (fun p => p.map (fun b => (b.toNat : Int))) := by
    intro ps
    rw [List.map_map]
    exact List.map_congr_left (fun p _ => (bl_toList p).symm)
  rw [e3,e,cutU_cutL,bl_toList]

/-! the reference's cut -/
def cutF (c : Int) (l : List Int) : List (List Int) × List Int := l.foldl (fun a x => if x = c then (a.1 ++ [a.2],[]) else (a.1,a.2 ++ [x])) ([],[])

theorem cutF_gen (c : Int) : ∀ (l : List Int) (a : List (List Int) × List Int),(l.foldl (fun a x => if x = c then (a.1 ++ [a.2],[]) else (a.1,a.2 ++ [x])) a).1 ++ [(l.foldl (fun a x => if x = c then (a.1 ++ [a.2],[]) else (a.1,a.2 ++ [x])) a).2] =
    a.1 ++ (match cutL c l with | h :: t => (a.2 ++ h) :: t | [] => [a.2])
  | [],a => by simp [cutL]
  | x :: l,a => by
    simp only [List.foldl_cons]
    rw [cutF_gen c l]
    have hn := cutL_ne c l
    by_cases h : x = c
    · rw [if_pos h]
      conv => rhs; unfold cutL
      rw [if_pos h]
      cases hc : cutL c l with
      | nil => exact absurd hc hn
      | cons a t => simp
    · rw [if_neg h]
      conv => rhs; unfold cutL
      rw [if_neg h]
      cases hc : cutL c l with
      | nil => exact absurd hc hn
      | cons a t => simp

theorem cutF_eq (c : Int) (l : List Int) : (cutF c l).1 ++ [(cutF c l).2] = cutL c l := by
  unfold cutF
  rw [cutF_gen c l ([],[])]
  cases h : cutL c l with
  | nil => exact absurd h (cutL_ne c l)
  | cons a t => simp

theorem cutF_snoc (c : Int) (l : List Int) (x : Int) : cutF c (l ++ [x]) = if x = c then ((cutF c l).1 ++ [(cutF c l).2],[]) else ((cutF c l).1,(cutF c l).2 ++ [x]) := by
  unfold cutF
  rw [List.foldl_append]
  rfl

theorem cutF_len (c : Int) (l : List Int) : (cutF c l).1.length ≤ l.length := by
  have h1 := cutF_eq c l
  have h2 := cutL_length c l
  rw [← h1] at h2
  simp at h2
  exact h2

theorem l1Parts_spec (s : ByteArray) (c : Int) (h : s.size ≤ 1048577) : spec_l1Parts s c = some (partsS c s) := by
  have hlen := bl_length s
  obtain ⟨t,e,ht⟩ := loop_up (b := spec_l1Parts_l1b s c) (fun i q => q.2.2 = (i : Int) ∧
      ((i ≤ s.size ∧ q.1.map bl = (cutF c ((bl s).take i)).1 ∧ ∃ f : Nat,q.2.1 = (f : Int) ∧ f ≤ i ∧ ((bl s).drop f).take (i - f) = (cutF c ((bl s).take i)).2) ∨ (i = s.size + 1 ∧ q.1.map bl = cutL c (bl s)))) (s.size + 1)
    (fun t => t.map bl = cutL c (bl s)) (by
    rintro i ⟨out,from_,j⟩ hi ⟨hj,hI⟩
    simp only at hj hI
    subst hj
    rcases hI with ⟨hle,ho,f,hf,hfi,hc⟩ | ⟨he,_⟩
    case inr => omega
    subst hf
    have hol : out.length ≤ i := by
      have := congrArg List.length ho
      rw [List.length_map] at this
      rw [this]
      refine Nat.le_trans (cutF_len _ _) ?_
      simp
      omega
    unfold spec_l1Parts_l1b
    rw [if_pos (by simp; omega)]
    simp only
    by_cases hn : i = s.size
    · subst hn
      have es : ssub s (f : Int) (s.size : Int) = some (s.extract f s.size) := ssub_of hfi (Nat.le_refl _)
      rw [if_pos (by simp)]
      simp only [Option.bind_some,if_true]
      rw [es]
      simp only [Option.bind_some]
      rw [app_of (by simp; omega) (by simp; omega),w64_nat (by omega)]
      refine .inl ⟨_,rfl,rfl,.inr ⟨trivial,?_⟩⟩
      have htk : (bl s).take s.size = bl s := by rw [← hlen,List.take_length]
      rw [htk] at ho hc
      rw [List.map_append,ho,← cutF_eq]
      simp only [List.map_cons,List.map_nil]
      rw [bl_extract,hc]
    · have hlt : i < (bl s).length := by omega
      have htk : (bl s).take (i + 1) = (bl s).take i ++ [(bl s)[i]] := List.take_succ_eq_append_getElem hlt
      rw [if_neg (by simp; omega),bidx_nat hlt]
      simp only [Option.bind_some]
      by_cases hb : (bl s)[i] = c
      · rw [show ((bl s)[i] == c) = true by simpa using hb]
        simp only [if_true]
        have es : ssub s (f : Int) (i : Int) = some (s.extract f i) := ssub_of hfi (by omega)
        rw [es]
        simp only [Option.bind_some]
        rw [app_of (by simp; omega) (by simp; omega),w64_nat (by omega)]
        refine .inl ⟨_,rfl,rfl,.inl ⟨by omega,?_,i + 1,rfl,Nat.le_refl _,?_⟩⟩
        · rw [htk,cutF_snoc,if_pos hb,List.map_append,ho]
          simp only [List.map_cons,List.map_nil]
          rw [bl_extract,hc]
        · rw [htk,cutF_snoc,if_pos hb]
          simp
      · rw [show ((bl s)[i] == c) = false by simpa using hb]
        simp only [Bool.false_eq_true,if_false,Option.bind_some]
        rw [w64_nat (by omega)]
        refine .inl ⟨_,rfl,rfl,.inl ⟨by omega,?_,f,rfl,by omega,?_⟩⟩
        · rw [htk,cutF_snoc,if_neg hb]
          exact ho
        · rw [htk,cutF_snoc,if_neg hb,← hc,show i + 1 - f = (i - f) + 1 by omega]
          have hd : i - f < ((bl s).drop f).length := by simp; omega
          rw [List.take_succ_eq_append_getElem hd]
          congr 2
          rw [List.getElem_drop]
          congr 1
          omega) (by
    rintro ⟨out,from_,j⟩ ⟨hj,hI⟩
    simp only at hj hI
    subst hj
    rcases hI with ⟨hle,_⟩ | ⟨_,ho⟩
    · omega
    unfold spec_l1Parts_l1b
    rw [if_neg (by simp; omega)]
    exact ⟨_,rfl,ho⟩) (s.size + 1) 0 (([] : List ByteArray),0,0) (by omega) ⟨rfl,.inl ⟨by omega,rfl,0,rfl,by omega,by simp [cutF]⟩⟩
  unfold spec_l1Parts spec_l1Parts_l1
  rw [e,partsS_of ht]
  rfl

/-- The lines of a text. -/
def linesS (s : ByteArray) : List ByteArray := if (partsS 10 s).getLast? = some (bs []) then (partsS 10 s).dropLast else partsS 10 s

theorem lines_tail (ps : List ByteArray) (h0 : ps ≠ []) (hl : ps.length ≤ 1048578) : ((idx ps (w64 ((ps.length : Int) - 1))).bind fun x4 => (if seq x4 (bs []) then ((lsub ps 0 (w64 ((ps.length : Int) - 1))).bind fun x7 => some x7) else (some ps)).bind fun v9 => some v9) =
    some (if ps.getLast? = some (bs []) then ps.dropLast else ps) := by
  have hp : 0 < ps.length := List.length_pos_iff.2 h0
  rw [w64_of (by omega) (by omega),show (ps.length : Int) - 1 = ((ps.length - 1 : Nat) : Int) by omega,idx_nat (show ps.length - 1 < ps.length by omega)]
  simp only [Option.bind_some]
  have hg : ps.getLast? = some ps[ps.length - 1] := by
    rw [List.getLast?_eq_getElem?,List.getElem?_eq_getElem]
  rw [hg]
  by_cases h : ps[ps.length - 1] = bs []
  · rw [if_pos (seq_iff.2 h),if_pos (by rw [h])]
    have e : lsub ps 0 ((ps.length - 1 : Nat) : Int) = some (ps.take (ps.length - 1)) := take_sub (by omega)
    rw [e,List.dropLast_eq_take]
    rfl
  · have hs : seq ps[ps.length - 1] (bs []) = false := by
      cases hq : seq ps[ps.length - 1] (bs []) with
      | false => rfl
      | true => exact absurd (seq_iff.1 hq) h
    rw [hs,if_neg (show ¬ (some ps[ps.length - 1] = some (bs [])) from fun e => h (Option.some.inj e))]
    rfl

theorem partsS_ne (c : Int) (s : ByteArray) : partsS c s ≠ [] := by
  unfold partsS
  intro h
  exact cutL_ne c (bl s) (List.map_eq_nil_iff.1 h)

theorem partsS_len (c : Int) (s : ByteArray) : (partsS c s).length ≤ s.size + 1 := by
  unfold partsS
  rw [List.length_map,← bl_length]
  exact cutL_length c (bl s)

theorem l2Lines_spec (s : ByteArray) (h : s.size ≤ 1048577) : spec_l2Lines s = some (linesS s) := by
  unfold spec_l2Lines
  rw [l1Parts_spec s 10 h]
  exact lines_tail _ (partsS_ne _ _) (by have := partsS_len 10 s; omega)

theorem linesOf_impl (s : ByteArray) (h : s.size ≤ 1048577) : impl_linesOf s = some (linesS s) := by
  unfold impl_linesOf
  have e := Split_impl s 10 h
  rw [show (((10 : UInt8).toNat : Nat) : Int) = 10 from rfl] at e
  rw [show bs [10] = ⟨#[10]⟩ from rfl,e]
  exact lines_tail _ (partsS_ne _ _) (by have := partsS_len 10 s; omega)

theorem linesS_len (s : ByteArray) : (linesS s).length ≤ s.size + 1 := by
  have := partsS_len 10 s
  unfold linesS
  split
  · simp; omega
  · exact this

theorem linesS_size (s : ByteArray) : ∀ p ∈ linesS s,p.size ≤ s.size := by
  intro p hp
  have hm : p ∈ partsS 10 s := by
    unfold linesS at hp
    split at hp
    · exact (List.dropLast_sublist _).subset hp
    · exact hp
  have hb : bl p ∈ cutL 10 (bl s) := by
    rw [← partsS_bl]
    exact List.mem_map_of_mem hm
  have := cutL_size 10 (bl s) _ hb
  rw [bl_length,bl_length] at this
  exact this

/-! ### A version,read -/
def errV : VersionResult := { Code := 5,Version := zeroV }

def verStep (i : Nat) (a : List Int) (x : ByteArray) : Lp (List Int) (Fl VersionResult (List Int)) := match numL (bl x) 3 with
  | some n => .go (a.set i n)
  | none => .done (.ret errV)

def verEnd (t : Fl VersionResult (List Int)) : VersionResult := match t with
  | .ret r => r
  | .nxt l => { Code := 0,Version := { A := l.getD 0 0,B := l.getD 1 0,C := l.getD 2 0 } }

/-- The version that a text tells. -/
def PV (s : ByteArray) : VersionResult := if (partsS 46 s).length > 3 then errV else verEnd (goL verStep .nxt 0 (partsS 46 s) [0,0,0])

theorem numL_nonneg {l : List Int} {n : Int} (h : numL l 3 = some n) : 0 ≤ n := by
  unfold numL at h
  split at h
  · cases h
  · rename_i h1
    cases h
    exact (val_bound (l := l) (by
      intro c hc
      cases hd : digB c with
      | true => rfl
      | false => exact absurd (.inr (.inr (fun h' => by rw [h' c hc] at hd; cases hd))) h1)).1

theorem goL_len3 : ∀ (ps : List ByteArray) (i : Nat) (a : List Int),a.length = 3 → match goL verStep Fl.nxt i ps a with | .ret r => r = errV | .nxt l => l.length = 3
  | [],_,a,h => h
  | p :: ps,i,a,h => by
    simp only [goL]
    unfold verStep
    cases hn : numL (bl p) 3 with
    | none => rfl
    | some n => exact goL_len3 ps (i + 1) (a.set i n) (by simpa using h)

theorem ParseVersion_spec (s : ByteArray) (h : s.size ≤ 1048577) : spec_ParseVersion s = some (PV s) := by
  unfold spec_ParseVersion PV
  rw [l1Parts_spec s 46 h]
  simp only [Option.bind_some]
  by_cases hl : (partsS 46 s).length > 3
  · rw [if_pos (by simp; omega),if_pos hl]; rfl
  rw [if_neg (by simp; omega),if_neg hl]
  have key := loop_list (partsS 46 s) verStep Fl.nxt (fun i a => (a,(i : Int))) (fun _ a => a.length = 3) (b := spec_ParseVersion_l1b (partsS 46 s)) [0,0,0] (by
    intro i a hi ha
    unfold spec_ParseVersion_l1b verStep
    rw [if_pos (by simp; omega),idx_nat hi]
    simp only [Option.bind_some,l1Number_eq _ 3 (by omega)]
    cases hn : numL (bl (partsS 46 s)[i]) 3 with
    | none => exact ⟨rfl,fun a' h => by cases h⟩
    | some n =>
      simp only [Bool.not_true,Bool.false_eq_true,if_false]
      rw [idx_nat (show i < a.length by omega),w64_nat (by omega)]
      exact ⟨rfl,fun a' h => by cases h; simpa using ha⟩) (by
    intro a ha
    unfold spec_ParseVersion_l1b
    rw [if_neg (by simp)]) rfl
  unfold spec_ParseVersion_l1
  rw [show ((0 : Nat) : Int) = 0 from rfl] at key
  rw [key]
  have h3 := goL_len3 (partsS 46 s) 0 [0,0,0] rfl
  cases hg : goL verStep Fl.nxt 0 (partsS 46 s) [0,0,0] with
  | ret r => rfl
  | nxt l =>
    rw [hg] at h3
    match l,h3 with
    | [x,y,z],_ => rfl

theorem ParseVersion_impl (s : ByteArray) (h : s.size ≤ 1048577) : impl_ParseVersion s = some (PV s) := by
  unfold impl_ParseVersion PV
  have e := Split_impl s 46 h
  rw [show (((46 : UInt8).toNat : Nat) : Int) = 46 from rfl] at e
  rw [show bs [46] = ⟨#[46]⟩ from rfl,e]
  simp only [Option.bind_some]
  by_cases hl : (partsS 46 s).length > 3
  · rw [if_pos (by simp; omega),if_pos hl]; rfl
  rw [if_neg (by simp; omega),if_neg hl]
  have key := loop_list (partsS 46 s) verStep Fl.nxt (fun i a => (a,(i : Int))) (fun _ a => a.length = 3) (b := impl_ParseVersion_l1b (partsS 46 s)) [0,0,0] (by
    intro i a hi ha
    have hia : i < a.length := by omega
    unfold impl_ParseVersion_l1b verStep
    rw [if_pos (by simp; omega),idx_nat hi]
    simp only [Option.bind_some,number_eq _ 3 (by omega)]
    have ea : ∀ (b : List Int),b.length = 3 → idxa b 3 (i : Int) = idx b (i : Int) := fun b hb => if_pos hb
    rw [ea a ha,idx_nat hia]
    simp only [Option.bind_some,Int.toNat_natCast]
    rw [ea _ (by simpa using ha),idx_nat (by simpa using hia)]
    simp only [Option.bind_some,List.getElem_set_self]
    cases hn : numL (bl (partsS 46 s)[i]) 3 with
    | none => exact ⟨rfl,fun a' h => by cases h⟩
    | some n =>
      have := numL_nonneg hn
      simp only
      rw [if_neg (by simpa using this),w64_nat (by omega)]
      exact ⟨rfl,fun a' h => by cases h; simpa using ha⟩) (by
    intro a ha
    unfold impl_ParseVersion_l1b
    rw [if_neg (by simp)]) rfl
  unfold impl_ParseVersion_l1
  rw [show ((0 : Nat) : Int) = 0 from rfl] at key
  rw [key]
  have h3 := goL_len3 (partsS 46 s) 0 [0,0,0] rfl
  cases hg : goL verStep Fl.nxt 0 (partsS 46 s) [0,0,0] with
  | ret r => rfl
  | nxt l =>
    rw [hg] at h3
    match l,h3 with
    | [x,y,z],_ => rfl

/-! ### A term,read -/
def tw (p : Int → Bool) (l : List Int) : Nat := (l.takeWhile p).length

theorem tw_le (p : Int → Bool) : ∀ (l : List Int),tw p l ≤ l.length
  | [] => by simp [tw]
  | x :: l => by
    have := tw_le p l
    unfold tw at this ⊢
    rw [List.takeWhile_cons]
    split
    · simp; omega
    · simp

theorem tw_cons (p : Int → Bool) (x : Int) (l : List Int) : tw p (x :: l) = if p x then tw p l + 1 else 0 := by
  unfold tw
  rw [List.takeWhile_cons]
  split <;> simp

theorem loop_whileI (l : List Int) (p : Int → Bool) {b : Int → Option (Lp Int Int)} (hs : ∀ (i : Nat) (hi : i < l.length),b (i : Int) = some (if p l[i] then .go ((i + 1 : Nat) : Int) else .done (i : Int))) (he : b (l.length : Int) = some (.done (l.length : Int))) :
    ∀ (k i : Nat),i + k = l.length → loop b (i : Int) = some ((i + tw p (l.drop i) : Nat) : Int)
  | 0,i,h => by
    have e : i = l.length := by omega
    subst e
    rw [loop_eq,he,List.drop_length]
    rfl
  | k + 1,i,h => by
    have hi : i < l.length := by omega
    rw [loop_eq,hs i hi,List.drop_eq_getElem_cons hi,tw_cons]
    cases p l[i]
    · rfl
    · have := loop_whileI l p hs he k (i + 1) (by omega)
      simp only [if_true,Option.bind_some,Lp.elim]
      rw [this]
      congr 2
      omega

theorem loop_while (l : List Int) (p : Int → Bool) {b : Int → Option (Lp Int Int)} (hs : ∀ (i : Nat) (hi : i < l.length),b (i : Int) = some (if p l[i] then .go ((i + 1 : Nat) : Int) else .done (i : Int))) (he : b (l.length : Int) = some (.done (l.length : Int))) :
    loop b 0 = some ((tw p l : Nat) : Int) := by
  have := loop_whileI l p hs he l.length 0 (by omega)
  simpa using this

def not60 (c : Int) : Bool := c != 60

def nameN (s : ByteArray) : Nat := tw namB (bl s)

def nameP (s : ByteArray) : ByteArray := s.extract 0 (nameN s)

def restP (s : ByteArray) : ByteArray := s.extract (nameN s) s.size

def cutN (r : ByteArray) : Nat := tw not60 (bl r)

def highP (r : ByteArray) : Option Version := if cutN r < r.size then (if (PV (r.extract (cutN r + 1) r.size)).Code != 0 then none else some (PV (r.extract (cutN r + 1) r.size)).Version) else some topV

def lowT (r : ByteArray) : ByteArray := r.extract 0 (cutN r)

def lowP (r : ByteArray) : Option Version := if seq (lowT r) (bs []) then some zeroV else if decide ((lowT r).size < 2) || !(seq ((lowT r).extract 0 2) (bs [62,61])) then none else
  (if (PV ((lowT r).extract 2 (lowT r).size)).Code != 0 then none else some (PV ((lowT r).extract 2 (lowT r).size)).Version)

def noTerm : Term := { Name := ByteArray.empty,Low := zeroV,High := zeroV }

def errT (c : Int) : TermResult := { Code := c,Term := noTerm }

def endT (t : Term) : TermResult := if TF t != 0 then errT (TF t) else { Code := 0,Term := t }

/-- The term that a text tells. -/
def PTm (s : ByteArray) : TermResult := if NF (nameP s) != 0 then errT 5 else match highP (restP s),lowP (restP s) with
  | some h,some l => endT { Name := nameP s,Low := l,High := h }
  | _,_ => errT 5

theorem extract_size {s : ByteArray} {i j : Nat} (h : i ≤ j) (hj : j ≤ s.size) : (s.extract i j).size = j - i := by
  rw [← bl_length,bl_extract]
  simp
  rw [bl_length]
  omega

theorem nameN_le (s : ByteArray) : nameN s ≤ s.size := by
  rw [← bl_length]; exact tw_le _ _

theorem cutN_le (s : ByteArray) : cutN s ≤ s.size := by
  rw [← bl_length]; exact tw_le _ _

theorem ParseTerm_spec (s : ByteArray) (h : s.size ≤ 1048577) : spec_ParseTerm s = some (PTm s) := by
  have k1 : spec_ParseTerm_l1 s 0 = some ((nameN s : Nat) : Int) := by
    unfold spec_ParseTerm_l1 nameN
    refine loop_while (bl s) namB (fun i hi => ?_) ?_
    · have hs : i < s.size := by rw [← bl_length]; exact hi
      unfold spec_ParseTerm_l1b
      rw [if_pos (by simp; omega),bidx_nat hi]
      simp only [Option.bind_some,l1Name_eq]
      rw [w64_nat (by omega)]
      cases namB (bl s)[i] <;> rfl
    · unfold spec_ParseTerm_l1b
      rw [if_neg (by rw [bl_length]; simp)]
      rfl
  have hn := nameN_le s
  have e1 : ssub s 0 ((nameN s : Nat) : Int) = some (nameP s) := ssub_of (Nat.zero_le _) hn
  have e2 : ssub s ((nameN s : Nat) : Int) (s.size : Int) = some (restP s) := ssub_of hn (Nat.le_refl _)
  unfold spec_ParseTerm spec_AnyTerm spec_l1Top
  rw [k1]
  simp only [Option.bind_some]
  rw [e1]
  simp only [Option.bind_some,NameFault_spec]
  unfold PTm
  cases hN : NF (nameP s) != 0
  case true => rfl
  simp only [Bool.false_eq_true,if_false]
  rw [e2]
  simp only [Option.bind_some]
  generalize hT : ({ Name := nameP s,Low := { A := 0,B := 0,C := 0 },High := { A := 1000,B := 0,C := 0 } } : Term) = T0
  generalize hr : restP s = r
  have hrs : r.size ≤ 1048577 := by
    rw [← hr]
    unfold restP
    rw [extract_size hn (Nat.le_refl _)]
    omega
  have k2 : spec_ParseTerm_l2 T0 r 0 = some ((cutN r : Nat) : Int) := by
    unfold spec_ParseTerm_l2 cutN
    refine loop_while (bl r) not60 (fun i hi => ?_) ?_
    · have hs : i < r.size := by rw [← bl_length]; exact hi
      unfold spec_ParseTerm_l2b not60
      rw [if_pos (by simp; omega),bidx_nat hi]
      simp only [Option.bind_some]
      rw [w64_nat (by omega)]
      cases (bl r)[i] != 60 <;> rfl
    · unfold spec_ParseTerm_l2b
      rw [if_neg (by rw [bl_length]; simp)]
      rfl
  rw [k2]
  have hc := cutN_le r
  have elow : ssub r 0 ((cutN r : Nat) : Int) = some (lowT r) := ssub_of (Nat.zero_le _) hc
  have hlow : (lowT r).size = cutN r := by
    unfold lowT
    rw [extract_size (Nat.zero_le _) hc]
    omega
  simp only [Option.bind_some]
  -- the high part
  have eh : (if decide (((cutN r : Nat) : Int) < (r.size : Int)) then ((ssub r (w64 (((cutN r : Nat) : Int) + 1)) (r.size : Int)).bind fun x40 => (spec_ParseVersion x40).bind fun x42 => if x42.Code != 0 then (some (Fl.ret (errT 5))) else (some (Fl.nxt (x42.Version.A,x42.Version.B,x42.Version.C))))
      else (some (Fl.nxt ((1000 : Int),(0 : Int),(0 : Int))))) = some (match highP r with | some v => Fl.nxt (v.A,v.B,v.C) | none => Fl.ret (errT 5)) := by
    unfold highP
    by_cases hlt : cutN r < r.size
    · rw [if_pos (by simp; omega),if_pos hlt,w64_nat (by omega)]
      have e3 : ssub r ((cutN r + 1 : Nat) : Int) (r.size : Int) = some (r.extract (cutN r + 1) r.size) := ssub_of (by omega) (Nat.le_refl _)
      rw [e3]
      simp only [Option.bind_some]
      rw [ParseVersion_spec _ (by rw [extract_size (by omega) (Nat.le_refl _)]; omega)]
      simp only [Option.bind_some]
      cases (PV (r.extract (cutN r + 1) r.size)).Code != 0 <;> rfl
    · rw [if_neg (by simp; omega),if_neg hlt]
      rfl
  have eh' := eh
  unfold errT noTerm zeroV at eh'
  rw [eh']
  cases hH : highP r with
  | none => rfl
  | some v =>
    simp only [Option.bind_some,Fl.go]
    rw [elow]
    simp only [Option.bind_some]
    have el : (if !(seq (lowT r) (bs [])) then ((if decide (((lowT r).size : Int) < 2) then (some true) else ((ssub (lowT r) 0 2).bind fun x50 => some (!(seq x50 (bs [62,61]))))).bind fun v52 => if v52 then (some (Fl.ret (errT 5))) else
          ((ssub (lowT r) 2 ((lowT r).size : Int)).bind fun x54 => (spec_ParseVersion x54).bind fun x56 => if x56.Code != 0 then (some (Fl.ret (errT 5))) else (some (Fl.nxt (x56.Version.A,x56.Version.B,x56.Version.C)))))
        else (some (Fl.nxt ((0 : Int),(0 : Int),(0 : Int))))) = some (match lowP r with | some v => Fl.nxt (v.A,v.B,v.C) | none => Fl.ret (errT 5)) := by
      unfold lowP
      cases hq : seq (lowT r) (bs [])
      · simp only [Bool.not_false,if_true,Bool.false_eq_true,if_false]
        by_cases h2 : (lowT r).size < 2
        · rw [if_pos (by simp; omega)]
          simp [h2]
        · have e5 : ssub (lowT r) ((0 : Nat) : Int) ((2 : Nat) : Int) = some ((lowT r).extract 0 2) := ssub_of (by omega) (by omega)
          rw [show ((0 : Nat) : Int) = 0 from rfl,show ((2 : Nat) : Int) = 2 from rfl] at e5
          rw [if_neg (by simp; omega),e5]
          simp only [Option.bind_some,h2,decide_false,Bool.false_or]
          cases seq ((lowT r).extract 0 2) (bs [62,61])
          · rfl
          · have e6 : ssub (lowT r) ((2 : Nat) : Int) ((lowT r).size : Int) = some ((lowT r).extract 2 (lowT r).size) := ssub_of (by omega) (Nat.le_refl _)
            rw [show ((2 : Nat) : Int) = 2 from rfl] at e6
            simp only [Bool.not_true,Bool.false_eq_true,if_false]
            rw [e6]
            simp only [Option.bind_some]
            rw [ParseVersion_spec _ (by rw [extract_size (by omega) (Nat.le_refl _)]; omega)]
            simp only [Option.bind_some]
            cases (PV ((lowT r).extract 2 (lowT r).size)).Code != 0 <;> rfl
      · rfl
    have el' := el
    unfold errT noTerm zeroV at el'
    rw [el']
    cases hL : lowP r with
    | none => rfl
    | some u =>
      simp only [Option.bind_some,Fl.go]
      rw [TermFault_spec]
      simp only [Option.bind_some]
      unfold endT
      have : ({ Name := nameP s,Low := { A := u.A,B := u.B,C := u.C },High := { A := v.A,B := v.B,C := v.C } } : Term) = { Name := nameP s,Low := u,High := v } := rfl
      rw [this]
      cases TF { Name := nameP s,Low := u,High := v } != 0 <;> rfl

theorem CutPrefix_impl (s p : ByteArray) : strings_CutPrefix s p = some (if begins s p then (s.extract p.size s.size,true) else (s,false)) := by
  unfold strings_CutPrefix internal_stringslite_CutPrefix internal_stringslite_HasPrefix begins
  by_cases h : p.size ≤ s.size
  · have e1 : ssub s ((0 : Nat) : Int) (p.size : Int) = some (s.extract 0 p.size) := ssub_of (Nat.zero_le _) h
    have e2 : ssub s (p.size : Int) (s.size : Int) = some (s.extract p.size s.size) := ssub_of h (Nat.le_refl _)
    rw [show ((0 : Nat) : Int) = 0 from rfl] at e1
    rw [if_pos (by simp; omega),e1]
    simp only [Option.bind_some,h,decide_true,Bool.true_and]
    cases seq (s.extract 0 p.size) p
    · rfl
    · simp only [Bool.not_true,Bool.false_eq_true,if_false]
      rw [e2]
      rfl
  · rw [if_neg (by simp; omega)]
    simp [h]

theorem indexByte_tw (c : UInt8) : ∀ (l : List UInt8),Lib.indexByte l c = if tw (fun x => x != (c.toNat : Int)) (l.map (fun b => (b.toNat : Int))) = l.length then -1 else (tw (fun x => x != (c.toNat : Int)) (l.map (fun b => (b.toNat : Int))) : Int)
  | [] => rfl
  | b :: l => by
    have ih := indexByte_tw c l
    have hle := tw_le (fun x => x != (c.toNat : Int)) (l.map (fun b => (b.toNat : Int)))
    rw [List.length_map] at hle
    rw [Lib.indexByte,List.map_cons,tw_cons]
    by_cases h : b = c
    · subst h
      simp
    · have h' : ((b.toNat : Int) != (c.toNat : Int)) = true := by
        simp only [bne_iff_ne,ne_eq]
        intro e
        exact h (UInt8.toNat_inj.1 (by omega))
      rw [if_neg (by simpa using h)]
      simp only [h',if_true,List.length_cons]
      rw [ih]
      by_cases he : tw (fun x => x != (c.toNat : Int)) (l.map (fun b => (b.toNat : Int))) = l.length
      · rw [he]
        simp
      · rw [if_neg he,if_neg (by simp),if_neg (by omega)]
        omega

theorem begins_bl2 (s p : ByteArray) : begins s p = decide ((bl s).take (bl p).length = bl p) := by
  unfold begins
  rw [seq_bl,bl_extract,List.drop_zero,Nat.sub_zero,← bl_length p,← bl_length s]
  by_cases h : (bl p).length ≤ (bl s).length
  · simp [h]
  · have : ¬ ((bl s).take (bl p).length = bl p) := by
      intro e
      have := congrArg List.length e
      simp at this
      omega
    simp [h,this]

theorem ParseTerm_impl (s : ByteArray) (h : s.size ≤ 1048577) : impl_ParseTerm s = some (PTm s) := by
  have k1 : impl_ParseTerm_l1 s 0 = some ((nameN s : Nat) : Int) := by
    unfold impl_ParseTerm_l1 nameN
    refine loop_while (bl s) namB (fun i hi => ?_) ?_
    · have hs : i < s.size := by rw [← bl_length]; exact hi
      unfold impl_ParseTerm_l1b
      rw [if_pos (by simp; omega),bidx_nat hi]
      simp only [Option.bind_some,isNameByte_eq]
      rw [w64_nat (by omega)]
      cases namB (bl s)[i] <;> rfl
    · unfold impl_ParseTerm_l1b
      rw [if_neg (by rw [bl_length]; simp)]
      rfl
  have hn := nameN_le s
  have e1 : ssub s 0 ((nameN s : Nat) : Int) = some (nameP s) := ssub_of (Nat.zero_le _) hn
  have e2 : ssub s ((nameN s : Nat) : Int) (s.size : Int) = some (restP s) := ssub_of hn (Nat.le_refl _)
  unfold impl_ParseTerm impl_AnyTerm impl_top
  rw [k1]
  simp only [Option.bind_some]
  rw [e1]
  simp only [Option.bind_some]
  rw [e2]
  simp only [Option.bind_some,NameFault_impl]
  unfold PTm
  cases hN : NF (nameP s) != 0
  case true => rfl
  simp only [Bool.false_eq_true,if_false,CutPrefix_impl,Option.bind_some]
  generalize hr : restP s = r
  have hrs : r.size ≤ 1048577 := by
    rw [← hr]
    unfold restP
    rw [extract_size hn (Nat.le_refl _)]
    omega
  have hlr := bl_length r
  have b2 : bl (bs [62,61]) = [62,61] := bl_bs _
  have b1 : bl (bs [60]) = [60] := bl_bs _
  have s2 : (bs [62,61]).size = 2 := rfl
  have s1 : (bs [60]).size = 1 := rfl
  have fin : ∀ (l u : Version),((impl_TermFault ({ Name := nameP s,Low := ({ A := l.A,B := l.B,C := l.C } : Version),High := ({ A := u.A,B := u.B,C := u.C } : Version) } : Term)).bind fun x50 => if x50 != 0 then (some (errT x50)) else (some ({ Code := 0,Term := ({ Name := nameP s,Low := ({ A := l.A,B := l.B,C := l.C } : Version),High := ({ A := u.A,B := u.B,C := u.C } : Version) } : Term) } : TermResult))) =
      some (endT { Name := nameP s,Low := l,High := u }) := by
    intro l u
    rw [TermFault_impl]
    simp only [Option.bind_some]
    unfold endT
    cases TF { Name := nameP s,Low := l,High := u } != 0 <;> rfl
  have fin' := fin
  unfold errT noTerm zeroV at fin'
  cases hb : begins r (bs [62,61])
  · -- no lower end
    simp only [Bool.false_eq_true,if_false,Option.bind_some,Fl.go]
    cases hb1 : begins r (bs [60])
    · simp only [Bool.false_eq_true,if_false,Option.bind_some,Fl.go]
      cases hq : seq r (bs [])
      · -- something else
        have hne : bl r ≠ [] := by
          intro e
          rw [seq_bl,e,bl_nil] at hq
          simp at hq
        have hcut : 1 ≤ cutN r := by
          unfold cutN
          cases hx : bl r with
          | nil => exact absurd hx hne
          | cons x l =>
            rw [tw_cons]
            rw [begins_bl2,b1,hx] at hb1
            have : not60 x = true := by
              unfold not60
              simpa using hb1
            rw [this]
            simp
        have hlow : lowP r = none := by
          have hls : (lowT r).size = cutN r := by
            unfold lowT
            rw [extract_size (Nat.zero_le _) (cutN_le r)]
            omega
          unfold lowP
          have hs0 : seq (lowT r) (bs []) = false := by
            cases hs : seq (lowT r) (bs []) with
            | false => rfl
            | true =>
              have := congrArg ByteArray.size (seq_iff.1 hs)
              rw [hls] at this
              have hz : (bs []).size = 0 := rfl
              omega
          rw [hs0,if_neg (by simp),if_pos]
          by_cases h2 : (lowT r).size < 2
          · simp [h2]
          · simp only [h2,decide_false,Bool.false_or]
            rw [begins_bl2,b2] at hb
            rw [seq_bl,b2,bl_extract,lowT,bl_extract]
            simp only [List.drop_zero,Nat.sub_zero,List.take_take]
            rw [Nat.min_eq_left (by omega)]
            simpa using hb
        rw [hlow]
        cases highP r <;> rfl
      · -- nothing
        have he : bl r = [] := by
          rw [seq_bl,bl_nil] at hq
          simpa using hq
        have hz : r.size = 0 := by rw [← hlr,he]; rfl
        have hc0 : cutN r = 0 := by unfold cutN; rw [he]; rfl
        have h1 : highP r = some topV := by
          unfold highP
          rw [if_neg (by omega)]
        have h2 : lowP r = some zeroV := by
          unfold lowP
          have : seq (lowT r) (bs []) = true := by
            rw [seq_bl,bl_nil,lowT,bl_extract,he]
            simp
          rw [this]
          rfl
        rw [h1,h2]
        exact fin' zeroV topV
    · -- an upper end alone
      have hx := hb1
      rw [begins_bl2,b1] at hx
      simp only [decide_eq_true_eq] at hx
      have hc0 : cutN r = 0 := by
        unfold cutN
        cases hy : bl r with
        | nil => rfl
        | cons x l =>
          rw [hy] at hx
          simp at hx
          rw [tw_cons,hx]
          rfl
      have hpos : 0 < r.size := by
        rw [← hlr]
        cases hy : bl r with
        | nil => rw [hy] at hx; simp at hx
        | cons x l => simp
      have h2 : lowP r = some zeroV := by
        unfold lowP
        have : seq (lowT r) (bs []) = true := by
          rw [seq_bl,bl_nil,lowT,bl_extract,hc0]
          simp
        rw [this]
        rfl
      rw [h2]
      simp only [if_true]
      rw [s1,ParseVersion_impl _ (by rw [extract_size (by omega) (Nat.le_refl _)]; omega)]
      simp only [Option.bind_some]
      have hH : highP r = (if (PV (r.extract 1 r.size)).Code != 0 then none else some (PV (r.extract 1 r.size)).Version) := by
        unfold highP
        rw [if_pos (by omega),hc0]
      rw [hH]
      cases (PV (r.extract 1 r.size)).Code != 0
      · simp only [Bool.false_eq_true,if_false,Option.bind_some,Fl.go,seq_self,Bool.not_true]
        exact fin' zeroV (PV (r.extract 1 r.size)).Version
      · rfl
  · -- a lower end
    have hx := hb
    rw [begins_bl2,b2] at hx
    simp only [decide_eq_true_eq] at hx
    have hr2 : 2 ≤ r.size := by
      have := congrArg List.length hx
      simp at this
      omega
    simp only [if_true]
    rw [s2]
    generalize hq : r.extract 2 r.size = q
    have hbq : bl q = (bl r).drop 2 := by
      rw [← hq,bl_extract]
      rw [List.take_of_length_le (by simp; omega)]
    have hqs : q.size = r.size - 2 := by rw [← hq,extract_size hr2 (Nat.le_refl _)]
    have hbr : bl r = 62 :: 61 :: bl q := by
      rw [hbq]
      have := List.take_append_drop 2 (bl r)
      rw [show (bl r).take 2 = [62,61] from hx] at this
      exact this.symm
    have hcut : cutN r = cutN q + 2 := by
      unfold cutN
      rw [hbr,tw_cons,tw_cons]
      simp [not60]
    have hcq := cutN_le q
    have hix : strings_IndexByte q 60 = some (if cutN q = q.size then -1 else (cutN q : Int)) := by
      unfold strings_IndexByte
      have := indexByte_tw 60 q.data.toList
      rw [bl_toList] at this
      have e60 : (60 : Int).toNat.toUInt8 = 60 := rfl
      rw [e60,this]
      rfl
    rw [hix]
    simp only [Option.bind_some]
    have hv33 : (if decide ((if cutN q = q.size then (-1 : Int) else (cutN q : Int)) < 0) then (some (q.size : Int)) else some (if cutN q = q.size then (-1 : Int) else (cutN q : Int))) = some (cutN q : Int) := by
      by_cases e : cutN q = q.size
      · rw [if_pos e,if_pos (by decide),e]
      · rw [if_neg e,if_neg (by simp)]
    rw [hv33]
    simp only [Option.bind_some]
    have e3 : ssub q 0 (cutN q : Int) = some (q.extract 0 (cutN q)) := ssub_of (Nat.zero_le _) hcq
    have e4 : ssub q (cutN q : Int) (q.size : Int) = some (q.extract (cutN q) q.size) := ssub_of hcq (Nat.le_refl _)
    rw [e3]
    simp only [Option.bind_some]
    rw [ParseVersion_impl _ (by rw [extract_size (Nat.zero_le _) hcq]; omega)]
    simp only [Option.bind_some]
    rw [e4]
    simp only [Option.bind_some]
    -- the reference's lower end
    have hlt : lowT r = bs [62,61] ++ q.extract 0 (cutN q) := by
      refine bl_inj.1 ?_
      rw [lowT,bl_extract,bl_append,bl_extract,hbr,hcut,b2]
      rfl
    have hls : (lowT r).size = cutN q + 2 := by
      rw [hlt,ba_size,s2,extract_size (Nat.zero_le _) hcq]
      omega
    have hlow : lowP r = (if (PV (q.extract 0 (cutN q))).Code != 0 then none else some (PV (q.extract 0 (cutN q))).Version) := by
      have hs0 : seq (lowT r) (bs []) = false := by
        cases hs : seq (lowT r) (bs []) with
        | false => rfl
        | true =>
          have := congrArg ByteArray.size (seq_iff.1 hs)
          have hz : (bs []).size = 0 := rfl
          omega
      have ha : seq ((lowT r).extract 0 2) (bs [62,61]) = true := by
        rw [seq_bl,bl_extract,hlt,bl_append,b2]
        simp
      have hc : (lowT r).extract 2 (lowT r).size = q.extract 0 (cutN q) := by
        refine bl_inj.1 ?_
        rw [bl_extract,hls,hlt,bl_append,b2]
        simp only [List.cons_append,List.nil_append,List.drop_succ_cons,List.drop_zero,Nat.add_sub_cancel]
        rw [List.take_of_length_le]
        rw [bl_length,extract_size (Nat.zero_le _) hcq]
        omega
      unfold lowP
      rw [hs0,ha,hc,if_neg (by simp),if_neg (by simp; omega)]
    have hhigh : highP r = (if cutN q < q.size then (if (PV (q.extract (cutN q + 1) q.size)).Code != 0 then none else some (PV (q.extract (cutN q + 1) q.size)).Version) else some topV) := by
      have hc : r.extract (cutN r + 1) r.size = q.extract (cutN q + 1) q.size := by
        refine bl_inj.1 ?_
        rw [bl_extract,bl_extract,hbr,hcut,hqs]
        rw [show cutN q + 2 + 1 = (cutN q + 1) + 1 + 1 by omega]
        simp only [List.drop_succ_cons]
        congr 1
        omega
      unfold highP
      rw [hc]
      by_cases e : cutN q < q.size
      · rw [if_pos (by omega),if_pos e]
      · rw [if_neg (by omega),if_neg e]
    rw [hlow,hhigh]
    cases hv : (PV (q.extract 0 (cutN q))).Code != 0
    case true =>
      simp only [if_true]
      split <;> rename_i hh1 hh2
      · cases hh2
      · rfl
    simp only [Bool.false_eq_true,if_false,Option.bind_some,Fl.go]
    generalize hw : q.extract (cutN q) q.size = w
    have hbw : bl w = (bl q).drop (cutN q) := by
      rw [← hw,bl_extract,List.take_of_length_le]
      rw [List.length_drop,bl_length]
      exact Nat.le_refl _
    have hws : w.size = q.size - cutN q := by rw [← hw,extract_size hcq (Nat.le_refl _)]
    by_cases hlt2 : cutN q < q.size
    · have hhead : (bl q)[cutN q]? = some 60 := by
        have key : ∀ (l : List Int),tw not60 l < l.length → l[tw not60 l]? = some 60 := by
          intro l
          induction l with
          | nil => intro h; simp [tw] at h
          | cons x l ih =>
            intro h
            rw [tw_cons] at h ⊢
            cases hx : not60 x
            · unfold not60 at hx
              simp at hx
              rw [hx]
              simp
            · rw [hx] at h
              simp only [if_true,List.length_cons] at h ⊢
              rw [List.getElem?_cons_succ]
              exact ih (by omega)
        exact key (bl q) (by rw [bl_length]; exact hlt2)
      have hbeg : begins w (bs [60]) = true := by
        rw [begins_bl2,b1,hbw]
        have : ((bl q).drop (cutN q)).take 1 = [60] := by
          obtain ⟨hi,hv⟩ := List.getElem?_eq_some_iff.1 hhead
          rw [List.drop_eq_getElem_cons hi,hv]
          rfl
        simpa using this
      rw [hbeg,if_pos hlt2]
      simp only [if_true]
      have he : w.extract (bs [60]).size w.size = q.extract (cutN q + 1) q.size := by
        refine bl_inj.1 ?_
        rw [bl_extract,bl_extract,hbw,s1,List.drop_drop,hws]
        congr 1
      rw [he,ParseVersion_impl _ (by rw [extract_size (by omega) (Nat.le_refl _)]; omega)]
      simp only [Option.bind_some]
      cases hv2 : (PV (q.extract (cutN q + 1) q.size)).Code != 0
      · simp only [Bool.false_eq_true,if_false,Option.bind_some,Fl.go,seq_self,Bool.not_true]
        exact fin' (PV (q.extract 0 (cutN q))).Version (PV (q.extract (cutN q + 1) q.size)).Version
      · rfl
    · have hbw0 : bl w = [] := by
        rw [hbw,List.drop_eq_nil_of_le]
        rw [bl_length]
        omega
      have hbeg : begins w (bs [60]) = false := by
        rw [begins_bl2,b1,hbw0]
        rfl
      have hsw : seq w (bs []) = true := by
        rw [seq_bl,bl_nil,hbw0]
        rfl
      rw [hbeg,if_neg hlt2]
      simp only [Bool.false_eq_true,if_false,Option.bind_some,Fl.go]
      rw [hsw]
      exact fin' (PV (q.extract 0 (cutN q))).Version topV

/-! ### The terms of a text -/
theorem PTm_right {s : ByteArray} (h : (PTm s).Code = 0) : TF (PTm s).Term = 0 := by
  unfold PTm at h ⊢
  split at h
  · simp [errT] at h
  · rename_i h1
    rw [if_neg h1]
    split at h
    · unfold endT at h ⊢
      split at h
      · rename_i h2
        simp only [errT] at h
        rw [h] at h2
        simp at h2
      · rename_i h2
        rw [if_neg h2]
        simpa using h2
    · simp [errT] at h

/-- Has an earlier one this name? -/
def twiceB (out : List Term) (t : Term) : Bool := out.any (fun o => seq o.Name t.Name)

def anyTwice : List Term → List Term → Bool
  | _,[] => false
  | out,t :: l => twiceB out t || anyTwice (out ++ [t]) l

/-- All texts,read; none: one of them tells no term. -/
def readL : List ByteArray → Option (List Term)
  | [] => some []
  | s :: l => if (PTm s).Code != 0 then none else (readL l).map ((PTm s).Term :: ·)

/-- The terms of a text; none: it is none. -/
def rootsP (s : ByteArray) : Option (List Term) := match readL (linesS s) with
  | none => none
  | some l => if l.length ≤ 8 ∧ anyTwice [] l = false ∧ rootsS l = s then some l else none

theorem readL_right : ∀ {ps : List ByteArray} {l : List Term},readL ps = some l → (∀ t ∈ l,TF t = 0) ∧ l.length = ps.length
  | [],l,h => by cases h; simp
  | p :: ps,l,h => by
    simp only [readL] at h
    split at h
    · cases h
    · rename_i h1
      obtain ⟨l',e,rfl⟩ := Option.map_eq_some_iff.1 h
      obtain ⟨h2,h3⟩ := readL_right e
      refine ⟨fun t ht => ?_,by simp [h3]⟩
      rcases List.mem_cons.1 ht with rfl | ht
      · exact PTm_right (by simpa using h1)
      · exact h2 t ht

/-- The reference stops at the first that is wrong or twice. -/
def goR : List Term → List ByteArray → Fl (List Term × Bool) (List Term)
  | out,[] => .nxt out
  | out,s :: ps => if (PTm s).Code != 0 then .ret (out,false) else if twiceB out (PTm s).Term then .ret (out,false) else goR (out ++ [(PTm s).Term]) ps

theorem goR_eq : ∀ (ps : List ByteArray) (out : List Term),match readL ps with
    | none => ∃ o,goR out ps = .ret (o,false)
    | some l => (anyTwice out l = true → ∃ o,goR out ps = .ret (o,false)) ∧ (anyTwice out l = false → goR out ps = .nxt (out ++ l))
  | [],out => by simp [readL,anyTwice,goR]
  | s :: ps,out => by
    have ih := goR_eq ps (out ++ [(PTm s).Term])
    simp only [readL,goR]
    cases h : (PTm s).Code != 0
    · simp only [Bool.false_eq_true,if_false]
      cases hr : readL ps with
      | none =>
        rw [hr] at ih
        simp only [Option.map_none]
        cases twiceB out (PTm s).Term
        · exact ih
        · exact ⟨out,rfl⟩
      | some l =>
        rw [hr] at ih
        simp only [Option.map_some,anyTwice]
        cases twiceB out (PTm s).Term
        · simp only [Bool.false_or,Bool.false_eq_true,if_false]
          refine ⟨ih.1,fun h2 => ?_⟩
          rw [ih.2 h2,List.append_assoc]
          rfl
        · exact ⟨fun _ => ⟨out,rfl⟩,fun h2 => by simp at h2⟩
    · exact ⟨out,rfl⟩

theorem twice_loop {R : Type} (out : List Term) (n : ByteArray) (r : R) (h : out.length ≤ 1048576) {b : Int → Option (Lp Int (Fl R Unit))}
    (hs : ∀ (i : Nat) (hi : i < out.length),b (i : Int) = some (if seq out[i].Name n then .done (.ret r) else .go ((i + 1 : Nat) : Int))) (he : b (out.length : Int) = some (.done (.nxt ()))) :
    loop b 0 = some (if out.any (fun o => seq o.Name n) then .ret r else .nxt ()) := by
  have key := loop_scan out (fun _ o => if seq o.Name n then some r else none) (b := b) (fun i hi => by
    rw [hs i hi]
    cases seq out[i].Name n <;> rfl) he
  rw [key,scan_const]
  cases out.any (fun o => seq o.Name n) <;> rfl

theorem l8Roots_loop (s : ByteArray) (ps : List ByteArray) (hps : ∀ p ∈ ps,p.size ≤ 1048577) (hl : ps.length ≤ 100000) : ∀ (k i : Nat) (out : List Term),i + k = ps.length → out.length ≤ i → loop (spec_l8Roots_l2b s ps) (out,(i : Int)) = some (goR out (ps.drop i))
  | 0,i,out,hk,ho => by
    have e : i = ps.length := by omega
    subst e
    rw [loop_eq]
    unfold spec_l8Roots_l2b
    rw [if_neg (by simp),List.drop_length]
    rfl
  | k + 1,i,out,hk,ho => by
    have hi : i < ps.length := by omega
    have ih := l8Roots_loop s ps hps hl k (i + 1) (out ++ [(PTm ps[i]).Term]) (by omega) (by simp; omega)
    rw [loop_eq,List.drop_eq_getElem_cons hi]
    conv => lhs; unfold spec_l8Roots_l2b
    rw [if_pos (by simp; omega),idx_nat hi]
    simp only [Option.bind_some,ParseTerm_spec _ (hps _ (List.getElem_mem hi)),goR]
    cases h : (PTm ps[i]).Code != 0
    · simp only [Bool.false_eq_true,if_false]
      have key := twice_loop out (PTm ps[i]).Term.Name (out,false) (by omega) (b := spec_l8Roots_l1b s ps (out,(i : Int)) (PTm ps[i])) (by
        intro j hj
        unfold spec_l8Roots_l1b
        rw [if_pos (by simp; omega)]
        simp only
        rw [idx_nat hj]
        simp only [Option.bind_some]
        rw [w64_nat (by omega)]
        cases seq out[j].Name (PTm ps[i]).Term.Name <;> rfl) (by
        unfold spec_l8Roots_l1b
        rw [if_neg (by simp)])
      unfold spec_l8Roots_l1
      rw [key]
      have : out.any (fun o => seq o.Name (PTm ps[i]).Term.Name) = twiceB out (PTm ps[i]).Term := rfl
      rw [this]
      cases twiceB out (PTm ps[i]).Term
      · simp only [Bool.false_eq_true,if_false,Option.bind_some,Fl.go]
        rw [app_of (by simp; omega) (by simp; omega),w64_nat (by omega)]
        simp only [Option.bind_some,Lp.elim]
        exact ih
      · rfl
    · rfl

theorem l8Roots_spec (s : ByteArray) (h : s.size ≤ 90000) : ∃ o,spec_l8Roots s = some (match rootsP s with | some l => (l,true) | none => (o,false)) := by
  have hlen := linesS_len s
  have hsz : ∀ p ∈ linesS s,p.size ≤ 1048577 := fun p hp => by have := linesS_size s p hp; omega
  have key := l8Roots_loop s (linesS s) hsz (by omega) (linesS s).length 0 [] (by omega) (by simp)
  rw [List.drop_zero,show ((0 : Nat) : Int) = 0 from rfl] at key
  unfold spec_l8Roots
  rw [l2Lines_spec s (by omega)]
  simp only [Option.bind_some]
  unfold spec_l8Roots_l2
  rw [key]
  have hg := goR_eq (linesS s) []
  unfold rootsP
  cases hr : readL (linesS s) with
  | none =>
    rw [hr] at hg
    obtain ⟨o,e⟩ := hg
    rw [e]
    exact ⟨o,rfl⟩
  | some l =>
    rw [hr] at hg
    simp only at hg ⊢
    cases ha : anyTwice [] l
    · have hg := hg.2 ha
      simp only [List.nil_append] at hg
      rw [hg]
      simp only [Option.bind_some,Fl.go,true_and]
      obtain ⟨h1,h2⟩ := readL_right hr
      by_cases h8 : l.length ≤ 8
      · rw [if_pos (by simp; omega),l8Text_spec l (by omega) h1]
        simp only [Option.bind_some,h8,true_and]
        by_cases he : rootsS l = s
        · rw [if_pos he,he,seq_self]
          exact ⟨[],rfl⟩
        · rw [if_neg he]
          have : seq (rootsS l) s = false := by
            rw [seq_eq]; simpa using he
          rw [this]
          exact ⟨l,rfl⟩
      · rw [if_neg (by simp; omega),if_neg (fun e => h8 e.1)]
        exact ⟨l,rfl⟩
    · obtain ⟨o,e⟩ := hg.1 ha
      rw [e,if_neg (by simp)]
      exact ⟨o,rfl⟩

/-! the program's -/
theorem roots_loop (x2 : List Int × Bool) (ps : List ByteArray) (hps : ∀ p ∈ ps,p.size ≤ 1048577) (hl : ps.length ≤ 100000) : ∀ (k i : Nat) (out : List Term),i + k = ps.length → out.length ≤ i →
    loop (impl_Disk_roots_l1b x2 ps) (out,(i : Int)) = some (match readL (ps.drop i) with | none => .ret ([],5) | some l => .nxt (out ++ l))
  | 0,i,out,hk,ho => by
    have e : i = ps.length := by omega
    subst e
    rw [loop_eq]
    unfold impl_Disk_roots_l1b
    rw [if_neg (by simp),List.drop_length]
    simp [readL,Lp.elim]
  | k + 1,i,out,hk,ho => by
    have hi : i < ps.length := by omega
    have ih := roots_loop x2 ps hps hl k (i + 1) (out ++ [(PTm ps[i]).Term]) (by omega) (by simp; omega)
    rw [loop_eq,List.drop_eq_getElem_cons hi]
    conv => lhs; unfold impl_Disk_roots_l1b
    rw [if_pos (by simp; omega),idx_nat hi]
    simp only [Option.bind_some,ParseTerm_impl _ (hps _ (List.getElem_mem hi)),readL]
    cases h : (PTm ps[i]).Code != 0
    · simp only [Bool.false_eq_true,if_false]
      rw [app_of (by simp; omega) (by simp; omega),w64_nat (by omega)]
      simp only [Option.bind_some,Lp.elim]
      refine Eq.trans ih ?_
      cases readL (ps.drop (i + 1)) with
      | none => rfl
      | some l => simp
    · rfl

theorem twoOfOne_loop (l : List Term) (h : l.length ≤ 100000) : ∀ (k i : Nat),i + k = l.length → loop (impl_twoOfOne_l1b l) (i : Int) = some (if anyTwice (l.take i) (l.drop i) then .ret true else .nxt ())
  | 0,i,hk => by
    have e : i = l.length := by omega
    subst e
    rw [loop_eq]
    unfold impl_twoOfOne_l1b
    rw [if_neg (by simp),List.drop_length]
    rfl
  | k + 1,i,hk => by
    have hi : i < l.length := by omega
    have ih := twoOfOne_loop l h k (i + 1) (by omega)
    have hb : impl_twoOfOne_l1b l (i : Int) = some (if twiceB (l.take i) l[i] then .done (.ret true) else .go ((i + 1 : Nat) : Int)) := by
      unfold impl_twoOfOne_l1b
      rw [if_pos (by simp; omega),idx_nat hi]
      simp only [Option.bind_some]
      have e0 : lsub l ((0 : Nat) : Int) (i : Int) = some ((l.drop 0).take (i - 0)) := lsub_of (Nat.zero_le _) (by omega)
      rw [show ((0 : Nat) : Int) = 0 from rfl,List.drop_zero,Nat.sub_zero] at e0
      rw [e0]
      simp only [Option.bind_some]
      have ec : slices_ContainsFunc_LimplTerm_impl_twoOfOne_1 (l.take i) l[i] = some (twiceB (l.take i) l[i]) := by
        have key := loop_scan (l.take i) (fun j o => if seq o.Name l[i].Name then some (j : Int) else none) (b := slices_IndexFunc_LimplTerm_impl_twoOfOne_1_l1b (l.take i) l[i]) (by
          intro j hj
          have hj' : j < i := by simp at hj; omega
          unfold slices_IndexFunc_LimplTerm_impl_twoOfOne_1_l1b impl_twoOfOne_1
          rw [if_pos (show decide ((j : Int) < ((l.take i).length : Int)) = true by rw [decide_eq_true_eq]; omega),idx_nat hj]
          simp only [Option.bind_some]
          rw [w64_nat (by omega)]
          cases seq (l.take i)[j].Name l[i].Name <;> rfl) (by
          unfold slices_IndexFunc_LimplTerm_impl_twoOfOne_1_l1b
          rw [if_neg (by simp)])
        unfold slices_ContainsFunc_LimplTerm_impl_twoOfOne_1 slices_IndexFunc_LimplTerm_impl_twoOfOne_1 slices_IndexFunc_LimplTerm_impl_twoOfOne_1_l1
        rw [key,frs_go]
        unfold twiceB
        rw [← place_ge (scan_place (fun o => seq o.Name l[i].Name) (l.take i) 0)]
        cases scanL (fun j o => if seq o.Name l[i].Name then some (j : Int) else none) 0 (l.take i) <;> rfl
      rw [ec]
      simp only [Option.bind_some]
      rw [w64_nat (by omega)]
      cases twiceB (l.take i) l[i] <;> rfl
    rw [loop_eq,hb,List.drop_eq_getElem_cons hi]
    have ea : anyTwice (l.take i) (l[i] :: l.drop (i + 1)) = (twiceB (l.take i) l[i] || anyTwice (l.take i ++ [l[i]]) (l.drop (i + 1))) := rfl
    rw [ea]
    simp only [Option.bind_some]
    rw [List.take_succ_eq_append_getElem hi] at ih
    by_cases ht : twiceB (l.take i) l[i] = true
    · rw [if_pos ht,ht]
      rfl
    · have ht' : twiceB (l.take i) l[i] = false := by simpa using ht
      rw [if_neg ht,ht',Bool.false_or]
      exact ih

theorem twoOfOne_impl (l : List Term) (h : l.length ≤ 100000) : impl_twoOfOne l = some (anyTwice [] l) := by
  have := twoOfOne_loop l h l.length 0 (by omega)
  unfold impl_twoOfOne impl_twoOfOne_l1
  rw [show ((0 : Nat) : Int) = 0 from rfl] at this
  rw [this]
  simp only [List.take_zero,List.drop_zero]
  cases anyTwice [] l <;> rfl

theorem tsF_all : ∀ {l : List Term},(∀ t ∈ l,TF t = 0) → tsF l = 0 := by
  intro l h
  unfold tsF
  have : scanL (fun _ t => if TF t != 0 then some (TF t) else none) 0 l = none := by
    rw [scan_none]
    intro j hj
    rw [h _ (List.getElem_mem hj)]
    rfl
  rw [this]
  rfl

/-- The terms of the file of roots. -/
def rootsOfD (d : Disk) : Option (List Term) := match fileOf d (bs [114,111,111,116,115]) with
  | none => some []
  | some f => rootsP (b2s f.Data)

theorem rootsP_nil : rootsP (b2s []) = some [] := by
  have hl : linesS (b2s []) = [] := by
    unfold linesS
    have hp : partsS 10 (b2s []) = [b2s []] := by
      unfold partsS
      rw [show bl (b2s []) = [] from bl_b2s (by simp)]
      rfl
    rw [hp,if_pos (by rfl)]
    rfl
  unfold rootsP
  rw [hl]
  simp [readL,anyTwice,rootsS,growS]
  rfl

theorem roots_impl {d : Disk} (hg : d.good) (hb : Byt d) : impl_Disk_roots d = some (match rootsOfD d with | some l => (l,0) | none => ([],5)) := by
  unfold impl_Disk_roots
  have key : ∀ (x2 : List Int × Bool),(b2s x2.1).size ≤ 90000 → ((impl_linesOf (b2s x2.1)).bind fun x4 => (impl_Disk_roots_l1 x2 x4 (([] : List Term),0)).bind (Fl.go some fun v23 => (impl_RootsText v23).bind fun x24 =>
      (if !(seq x24 (b2s x2.1)) then (some true) else (if decide ((v23.length : Int) > 8) then (some true) else ((impl_twoOfOne v23).bind fun x28 => some x28))).bind fun v30 => if v30 then (some (([] : List Term),5)) else (some (v23,0)))) =
      some (match rootsP (b2s x2.1) with | some l => (l,(0 : Int)) | none => ([],5)) := by
    intro x2 hx
    generalize hs : b2s x2.1 = s
    rw [hs] at hx
    have hlen := linesS_len s
    have hsz : ∀ p ∈ linesS s,p.size ≤ 1048577 := fun p hp => by have := linesS_size s p hp; omega
    have k1 := roots_loop x2 (linesS s) hsz (by omega) (linesS s).length 0 [] (by omega) (by simp)
    rw [List.drop_zero,show ((0 : Nat) : Int) = 0 from rfl] at k1
    rw [linesOf_impl s (by omega)]
    simp only [Option.bind_some]
    unfold impl_Disk_roots_l1 rootsP
    rw [k1]
    cases hr : readL (linesS s) with
    | none => rfl
    | some l =>
      obtain ⟨h1,h2⟩ := readL_right hr
      simp only [List.nil_append,Option.bind_some,Fl.go]
      rw [RootsText_impl l (by omega),tsF_all h1]
      simp only [Option.bind_some,bne_self_eq_false,Bool.false_eq_true,if_false]
      by_cases he : rootsS l = s
      · rw [he,seq_self]
        simp only [Bool.not_true,Bool.false_eq_true,if_false]
        by_cases h8 : l.length ≤ 8
        · rw [if_neg (by simp; omega),twoOfOne_impl l (by omega)]
          simp only [Option.bind_some,h8,true_and,and_true]
          cases anyTwice [] l <;> rfl
        · rw [if_pos (by simp; omega),if_neg (fun e => h8 e.1)]
          rfl
      · have : seq (rootsS l) s = false := by rw [seq_eq]; simpa using he
        rw [this]
        simp only [Bool.not_false,if_true,Option.bind_some]
        rw [if_neg (fun e => he e.2.2)]
  have hsize : ∀ l : List Int,(∀ c ∈ l,0 ≤ c ∧ c ≤ 255) → (b2s l).size = l.length := fun l h => by rw [← bl_length,bl_b2s h]
  unfold rootsOfD
  rcases file_both d (bs [114,111,111,116,115]) hg with ⟨k,hk,_,e2,e3⟩ | ⟨_,e2,e3⟩
  · rw [e2,e3]
    have hm := List.getElem_mem hk
    have hd := hg.data _ hm
    simp only [Option.bind_some]
    exact key (d.Files[k].Data,true) (by show (b2s d.Files[k].Data).size ≤ 90000; rw [hsize _ (hb _ hm)]; omega)
  · rw [e2,e3]
    simp only [Option.bind_some]
    have := key ([],false) (by show (b2s []).size ≤ 90000; rw [hsize _ (by simp)]; simp)
    rw [rootsP_nil] at this
    exact this

theorem Asks_spec {d : Disk} (hg : d.good) (hb : Byt d) : ∃ o,spec_l8Asks d = some (match rootsOfD d with | some l => (l,true) | none => (o,false)) := by
  unfold spec_l8Asks rootsOfD
  rcases file_both d (bs [114,111,111,116,115]) hg with ⟨k,hk,e1,_,e3⟩ | ⟨e1,_,e3⟩
  · rw [e1,e3]
    have hm := List.getElem_mem hk
    have hd := hg.data _ hm
    obtain ⟨o,e⟩ := l8Roots_spec (b2s d.Files[k].Data) (by rw [← bl_length,bl_b2s (hb _ hm)]; omega)
    simp only [Option.bind_some]
    rw [if_neg (by simp),idx_nat hk]
    simp only [Option.bind_some]
    rw [e]
    refine ⟨o,?_⟩
    cases rootsP (b2s d.Files[k].Data) <;> rfl
  · rw [e1,e3]
    exact ⟨[],rfl⟩

/-! ### Sorted lists without doubles -/
theorem sorted_ext : ∀ {l1 l2 : List Int},l1.Pairwise (· < ·) → l2.Pairwise (· < ·) → (∀ x,x ∈ l1 ↔ x ∈ l2) → l1 = l2
  | [],[],_,_,_ => rfl
  | [],y :: l2,_,_,h => by have := (h y).2 (by simp); simp at this
  | x :: l1,[],_,_,h => by have := (h x).1 (by simp); simp at this
  | x :: l1,y :: l2,h1,h2,h => by
    rw [List.pairwise_cons] at h1 h2
    have hxy : x = y := by
      have hx := (h x).1 (by simp)
      have hy := (h y).2 (by simp)
      rcases List.mem_cons.1 hx with e | hx
      · exact e
      · rcases List.mem_cons.1 hy with e | hy
        · exact e.symm
        · have := h1.1 y hy
          have := h2.1 x hx
          omega
    subst hxy
    congr 1
    refine sorted_ext h1.2 h2.2 fun z => ?_
    constructor
    · intro hz
      rcases List.mem_cons.1 ((h z).1 (List.mem_cons_of_mem _ hz)) with e | hz'
      · have := h1.1 z hz; omega
      · exact hz'
    · intro hz
      rcases List.mem_cons.1 ((h z).2 (List.mem_cons_of_mem _ hz)) with e | hz'
      · have := h2.1 z hz; omega
      · exact hz'

theorem pairwise_getElem {l : List Int} (h : l.Pairwise (· < ·)) {i j : Nat} (hi : i < l.length) (hj : j < l.length) (hij : i < j) : l[i] < l[j] := List.pairwise_iff_getElem.1 h i j hi hj hij

/-- A number is put into its place. -/
theorem put_spec (l : List Int) (v : Int) (hs : l.Pairwise (· < ·)) (hv : v ∉ l) (hl : l.length ≤ 1048576) :
    ∃ r,spec_l3Put l v = some r ∧ r.Pairwise (· < ·) ∧ (∀ x,x ∈ r ↔ x ∈ l ∨ x = v) ∧ r.length = l.length + 1 := by
  obtain ⟨⟨acc,inn⟩,e,h1,h2,h3,h4⟩ := loop_up (b := spec_l3Put_l1b l v)
    (fun i s => s.2.2 = (i : Int) ∧ s.1.Pairwise (· < ·) ∧ (∀ x,x ∈ s.1 ↔ x ∈ l.take i ∨ (s.2.1 = true ∧ x = v)) ∧ s.1.length = i + (if s.2.1 then 1 else 0) ∧ (s.2.1 = false → ∀ x ∈ l.take i,x < v) ∧ (s.2.1 = true → ∀ x ∈ l.drop i,v < x)) l.length
    (fun t => t.1.Pairwise (· < ·) ∧ (∀ x,x ∈ t.1 ↔ x ∈ l ∨ (t.2 = true ∧ x = v)) ∧ t.1.length = l.length + (if t.2 then 1 else 0) ∧ (t.2 = false → ∀ x ∈ l,x < v)) (by
    rintro i ⟨acc,inn,j⟩ hi ⟨hj,hp,hm,hlen,hf,ht⟩
    simp only at hj hp hm hlen hf ht
    subst hj
    have hlt : ∀ x ∈ l.take i,x < l[i] := by
      intro x hx
      obtain ⟨k,hk,rfl⟩ := List.mem_iff_getElem.1 hx
      rw [List.getElem_take]
      have : k < i := by simp at hk; omega
      exact pairwise_getElem hs (by omega) hi this
    have htk : l.take (i + 1) = l.take i ++ [l[i]] := List.take_succ_eq_append_getElem hi
    have hdr : l.drop i = l[i] :: l.drop (i + 1) := List.drop_eq_getElem_cons hi
    have hne : l[i] ≠ v := fun e => hv (e ▸ List.getElem_mem hi)
    have hal : acc.length ≤ 1048577 := by rw [hlen]; split <;> omega
    unfold spec_l3Put_l1b
    rw [if_pos (by simp; omega),idx_nat hi]
    simp only [Option.bind_some]
    rw [w64_nat (by omega)]
    refine .inl ?_
    cases inn
    · by_cases hgt : l[i] > v
      · rw [if_pos (by simpa using hgt)]
        simp only [Bool.not_false,Option.bind_some,if_true]
        rw [app_of (by simp; omega) (by simp; omega)]
        simp only [Option.bind_some]
        rw [app_of (by simp; omega) (by simp; omega)]
        refine ⟨_,rfl,rfl,?_,?_,?_,by simp,?_⟩
        · simp only
          have hav : ∀ x ∈ acc,x < v := fun x hx => hf rfl x (by have := (hm x).1 hx; simpa using this)
          rw [List.pairwise_append,List.pairwise_append]
          refine ⟨⟨hp,by simp,fun x hx y hy => by simp at hy; rw [hy]; exact hav x hx⟩,by simp,fun x hx y hy => ?_⟩
          simp at hy
          rw [hy]
          rcases List.mem_append.1 hx with hx | hx
          · have := hav x hx; omega
          · simp at hx; omega
        · intro x
          have := hm x
          simp only [List.mem_append,List.mem_singleton,htk]
          simp at this
          rw [this]
          simp
          constructor <;> (intro h; rcases h with (h | h) | h <;> simp [h])
        · simp; simp at hlen; omega
        · intro _ x hx
          have : l[i] < x := by
            obtain ⟨k,hk,rfl⟩ := List.mem_iff_getElem.1 hx
            rw [List.getElem_drop]
            simp at hk
            exact pairwise_getElem hs hi (by omega) (by omega)
          omega
      · rw [if_neg (by simpa using hgt)]
        simp only [Option.bind_some,Bool.false_eq_true,if_false]
        rw [app_of (by simp; omega) (by simp; omega)]
        refine ⟨_,rfl,rfl,?_,?_,?_,?_,by simp⟩
        · simp only
          rw [List.pairwise_append]
          refine ⟨hp,by simp,fun x hx y hy => ?_⟩
          simp at hy
          rw [hy]
          have := (hm x).1 hx
          exact hlt x (by simpa using this)
        · intro x
          have := hm x
          simp only [List.mem_append,List.mem_singleton,htk]
          simp at this
          rw [this]
          simp
        · simp; simp at hlen; omega
        · intro _ x hx
          rw [htk] at hx
          rcases List.mem_append.1 hx with hx | hx
          · exact hf rfl x hx
          · simp at hx; omega
    · have hlv : v < l[i] := ht rfl _ (by rw [hdr]; exact List.mem_cons_self)
      rw [if_pos (by simpa using hlv)]
      simp only [Bool.not_true,Option.bind_some,Bool.false_eq_true,if_false]
      rw [app_of (by simp; omega) (by simp; omega)]
      refine ⟨_,rfl,rfl,?_,?_,?_,by simp,?_⟩
      · simp only
        rw [List.pairwise_append]
        refine ⟨hp,by simp,fun x hx y hy => ?_⟩
        simp at hy
        rw [hy]
        rcases (hm x).1 hx with hx | ⟨_,hx⟩
        · exact hlt x hx
        · omega
      · intro x
        have := hm x
        simp only [List.mem_append,List.mem_singleton,htk]
        rw [this]
        simp
        constructor <;> (intro h; rcases h with (h | h) | h <;> simp [h])
      · simp; simp at hlen; omega
      · intro _ x hx
        exact ht rfl x (by rw [hdr]; exact List.mem_cons_of_mem _ hx)) (by
    rintro ⟨acc,inn,j⟩ ⟨hj,hp,hm,hlen,hf,ht⟩
    simp only at hj hp hm hlen hf ht
    subst hj
    unfold spec_l3Put_l1b
    rw [if_neg (by simp)]
    rw [List.take_length] at hm hf
    exact ⟨_,rfl,hp,hm,hlen,hf⟩) l.length 0 (([] : List Int),false,0) (by omega) ⟨rfl,by simp,by simp,by simp,by simp,by simp⟩
  simp only at h1 h2 h3 h4
  unfold spec_l3Put spec_l3Put_l1
  rw [e]
  simp only [Option.bind_some]
  cases inn
  · simp only [Bool.not_false,if_true]
    simp at h3
    rw [app_of (by simp; omega) (by simp; omega)]
    refine ⟨_,rfl,?_,?_,by simp; omega⟩
    · rw [List.pairwise_append]
      refine ⟨h1,by simp,fun x hx y hy => ?_⟩
      simp at hy
      rw [hy]
      have := (h2 x).1 hx
      exact h4 rfl x (by simpa using this)
    · intro x
      have := h2 x
      simp at this
      simp [this]
  · refine ⟨_,rfl,h1,?_,by simpa using h3⟩
    intro x
    have := h2 x
    simpa using this

/-! ### Words,and the package that they tell -/
def wordsS (s : ByteArray) : List ByteArray := (partsS 32 s).filter (fun w => !(seq w (bs [])))

theorem partsS_size (c : Int) (s : ByteArray) : ∀ p ∈ partsS c s,p.size ≤ s.size := by
  intro p hp
  have hb : bl p ∈ cutL c (bl s) := by
    rw [← partsS_bl]
    exact List.mem_map_of_mem hp
  have := cutL_size c (bl s) _ hb
  rw [bl_length,bl_length] at this
  exact this

theorem wordsS_size (s : ByteArray) : ∀ p ∈ wordsS s,p.size ≤ s.size := fun p hp => partsS_size 32 s p (List.mem_filter.1 hp).1

theorem l2Words_spec (s : ByteArray) (h : s.size ≤ 1048577) : spec_l2Words s = some (wordsS s) := by
  have hl := partsS_len 32 s
  have key := loop_foldI (partsS 32 s) (fun _ l w => if !(seq w (bs [])) then l ++ [w] else l) (fun i l => l.length ≤ i) (b := spec_l2Words_l1b (partsS 32 s)) (by
    intro i l hi hI
    unfold spec_l2Words_l1b
    rw [if_pos (by simp; omega)]
    simp only
    rw [idx_nat hi]
    simp only [Option.bind_some]
    rw [app_of (by simp; omega) (by simp; omega),w64_nat (by omega)]
    cases seq (partsS 32 s)[i] (bs [])
    · exact ⟨rfl,by simp; omega⟩
    · exact ⟨rfl,by simp; omega⟩) (by
    intro l
    unfold spec_l2Words_l1b
    rw [if_neg (by simp)]) (partsS 32 s).length 0 [] (by omega) (by simp)
  unfold spec_l2Words
  rw [l1Parts_spec s 32 h]
  simp only [Option.bind_some]
  unfold spec_l2Words_l1
  rw [show ((0 : Nat) : Int) = 0 from rfl] at key
  rw [key.1,List.drop_zero,foldI_filter (fun w => !(seq w (bs [])))]
  rfl

theorem wordsOf_impl (s : ByteArray) (h : s.size ≤ 1048575) : impl_wordsOf s = some (wordsS s) := by
  have hl := partsS_len 32 s
  have e := Split_impl s 32 (by omega)
  rw [show (((32 : UInt8).toNat : Nat) : Int) = 32 from rfl] at e
  have key := del_gen (fun w : ByteArray => seq w (bs [])) (partsS 32 s) ByteArray.empty (by omega) (b1 := slices_IndexFunc_Lstring_impl_wordsOf_1_l1b (partsS 32 s)) (b2 := slices_DeleteFunc_Lstringr_impl_wordsOf_1_l1b) (by
    intro i hi
    unfold slices_IndexFunc_Lstring_impl_wordsOf_1_l1b impl_wordsOf_1
    rw [if_pos (by simp; omega),idx_nat hi]
    simp only [Option.bind_some]
    rw [w64_nat (by omega)]
    split <;> rfl) (by
    unfold slices_IndexFunc_Lstring_impl_wordsOf_1_l1b
    rw [if_neg (by simp)]) (by
    intro xs i j hj hij hl2 hm
    unfold slices_DeleteFunc_Lstringr_impl_wordsOf_1_l1b impl_wordsOf_1
    simp only
    rw [if_pos (by simp; omega),idx_nat hj]
    simp only [Option.bind_some]
    rw [idx_nat (show i < xs.length by omega),w64_nat (show j < _ by omega),w64_nat (show i < _ by omega)]
    cases seq xs[j] (bs []) <;> simp) (by
    intro xs i hl2
    unfold slices_DeleteFunc_Lstringr_impl_wordsOf_1_l1b
    rw [if_neg (by simp)])
  unfold impl_wordsOf
  rw [show bs [32] = ⟨#[32]⟩ from rfl,e]
  simp only [Option.bind_some]
  have e2 : slices_DeleteFunc_Lstringr_impl_wordsOf_1 (partsS 32 s) = some (wordsS s) := key
  rw [e2]
  rfl

/-- The package that words tell. -/
def readPk (c : List Pack) (w : List ByteArray) : Int := if w.length ≠ 2 then -1 else if (PV (w.getD 1 (bs []))).Code != 0 then -1 else findK c (w.getD 0 (bs [])) (PV (w.getD 1 (bs []))).Version

theorem readPk_bound (c : List Pack) (w : List ByteArray) : readPk c w = -1 ∨ (0 ≤ readPk c w ∧ readPk c w < c.length) := by
  unfold readPk
  split
  · exact .inl rfl
  · split
    · exact .inl rfl
    · exact findK_bound _ _ _

theorem readPack_impl (c : List Pack) (w : List ByteArray) (hc : c.length ≤ 1048576) (hw : ∀ p ∈ w,p.size ≤ 1048577) : impl_readPack c w = some (readPk c w) := by
  unfold impl_readPack readPk
  match w,hw with
  | [],_ => rfl
  | [_],_ => rfl
  | [x,y],hw =>
    have e0 : idx [x,y] 0 = some x := rfl
    have e1 : idx [x,y] 1 = some y := rfl
    rw [if_neg (by simp),e1,e0]
    simp only [Option.bind_some,ParseVersion_impl y (hw y (by simp))]
    rw [if_neg (show ¬ ([x,y].length ≠ 2) by simp)]
    show (if (PV y).Code != 0 then some (-1) else _) = some (if (PV y).Code != 0 then -1 else findK c x (PV y).Version)
    rw [findK_impl c x _ hc]
    cases (PV y).Code != 0 <;> rfl
  | _ :: _ :: _ :: r,_ =>
    rw [if_pos (by simp; omega),if_pos (by simp)]

/-- The reference reads a package within its loop. -/
theorem readPk_spec (c : List Pack) (w : List ByteArray) (hc : c.length ≤ 1048576) (hw : ∀ p ∈ w,p.size ≤ 1048577) : (if (w.length : Int) == 2 then ((idx w 1).bind fun x36 => (spec_ParseVersion x36).bind fun x38 => if x38.Code == 0 then ((idx w 0).bind fun x41 => (spec_l2Find c x41 x38.Version).bind fun x43 => some x43) else (some (-1))) else (some (-1))) = some (readPk c w) := by
  unfold readPk
  match w,hw with
  | [],_ => rfl
  | [_],_ => rfl
  | [x,y],hw =>
    have e0 : idx [x,y] 0 = some x := rfl
    have e1 : idx [x,y] 1 = some y := rfl
    rw [if_pos (by simp),e1,e0]
    simp only [Option.bind_some,ParseVersion_spec y (hw y (by simp))]
    rw [if_neg (show ¬ ([x,y].length ≠ 2) by simp)]
    show (if (PV y).Code == 0 then _ else some (-1)) = some (if (PV y).Code != 0 then -1 else findK c x (PV y).Version)
    rw [findK_spec c x _ hc,bne]
    cases (PV y).Code == 0 <;> rfl
  | _ :: _ :: _ :: r,_ =>
    rw [if_neg (by simp; omega),if_pos (by simp)]

/-! ### A set,read -/
/-- The packages of lines,in their order; the place of the first line that is wrong. -/
def readPs (c : List Pack) : Nat → List Int → List ByteArray → Fl SetResult (List Int)
  | _,out,[] => .nxt out
  | i,out,s :: ps => if readPk c (wordsS s) < 0 ∨ readPk c (wordsS s) ∈ out then .ret { Code := 5,At := i,Set := [] } else readPs c (i + 1) (out ++ [readPk c (wordsS s)]) ps

def setR (t : Fl SetResult (List Int)) : SetResult := match t with
  | .ret r => r
  | .nxt l => { Code := 0,At := 0,Set := l.mergeSort (fun x y => decide (x ≤ y)) }

/-- The set that a text tells. -/
def PS (c : List Pack) (s : ByteArray) : SetResult := if s.size > 4000 then { Code := 2,At := 0,Set := [] } else setR (readPs c 0 [] (linesS s))

theorem readPs_good (c : List Pack) : ∀ (ps : List ByteArray) (i : Nat) (out : List Int),out.Nodup → (∀ k ∈ out,0 ≤ k ∧ k < c.length) → match readPs c i out ps with
    | .ret r => r.Code = 5 ∧ r.Set = []
    | .nxt l => l.Nodup ∧ (∀ k ∈ l,0 ≤ k ∧ k < c.length)
  | [],_,out,h1,h2 => ⟨h1,h2⟩
  | s :: ps,i,out,h1,h2 => by
    simp only [readPs]
    split
    · rename_i h
      split at h
      · cases h; exact ⟨rfl,rfl⟩
      · rename_i hn
        rw [not_or] at hn
        have := readPs_good c ps (i + 1) (out ++ [readPk c (wordsS s)]) (by
          rw [List.nodup_append]
          refine ⟨h1,by simp,fun a ha b hb => ?_⟩
          simp only [List.mem_singleton] at hb
          subst hb
          intro e
          subst e
          exact hn.2 ha) (by
          intro k hk
          rcases List.mem_append.1 hk with hk | hk
          · exact h2 k hk
          · simp only [List.mem_singleton] at hk
            subst hk
            rcases readPk_bound c (wordsS s) with h | h
            · omega
            · exact h)
        rw [h] at this
        exact this
    · rename_i l h
      split at h
      · cases h
      · rename_i hn
        rw [not_or] at hn
        have := readPs_good c ps (i + 1) (out ++ [readPk c (wordsS s)]) (by
          rw [List.nodup_append]
          refine ⟨h1,by simp,fun a ha b hb => ?_⟩
          simp only [List.mem_singleton] at hb
          subst hb
          intro e
          subst e
          exact hn.2 ha) (by
          intro k hk
          rcases List.mem_append.1 hk with hk | hk
          · exact h2 k hk
          · simp only [List.mem_singleton] at hk
            subst hk
            rcases readPk_bound c (wordsS s) with h | h
            · omega
            · exact h)
        rw [h] at this
        exact this

theorem sort_of {l : List Int} (h : l.Nodup) : (l.mergeSort (fun x y => decide (x ≤ y))).Pairwise (· < ·) ∧ ∀ x,x ∈ l.mergeSort (fun x y => decide (x ≤ y)) ↔ x ∈ l := by
  have hp : (l.mergeSort (fun x y => decide (x ≤ y))).Perm l := List.mergeSort_perm _ _
  have hs : (l.mergeSort (fun x y => decide (x ≤ y))).Pairwise (fun x y => (decide (x ≤ y)) = true) := List.pairwise_mergeSort (fun a b c h1 h2 => by simp at h1 h2 ⊢; omega) (fun a b => by simp; omega) l
  have hn : (l.mergeSort (fun x y => decide (x ≤ y))).Nodup := hp.nodup_iff.2 h
  refine ⟨?_,fun x => hp.mem_iff⟩
  rw [List.pairwise_iff_getElem] at hs ⊢
  intro i j hi hj hij
  have h1 := hs i j hi hj hij
  have h2 := (List.pairwise_iff_getElem.1 hn) i j hi hj hij
  simp only [decide_eq_true_eq] at h1
  omega

theorem PS_cases (c : List Pack) (s : ByteArray) : (((PS c s).Code = 2 ∨ (PS c s).Code = 5) ∧ (PS c s).Set = []) ∨ (PS c s).Code = 0 ∧ (PS c s).At = 0 ∧ (PS c s).Set.Pairwise (· < ·) ∧ ∀ k ∈ (PS c s).Set,0 ≤ k ∧ k < c.length := by
  have key : ∀ r,r = PS c s → ((r.Code = 2 ∨ r.Code = 5) ∧ r.Set = []) ∨ r.Code = 0 ∧ r.At = 0 ∧ r.Set.Pairwise (· < ·) ∧ ∀ k ∈ r.Set,0 ≤ k ∧ k < c.length := by
    intro r hr
    unfold PS at hr
    split at hr
    · subst hr
      exact .inl ⟨.inl rfl,rfl⟩
    · have := readPs_good c (linesS s) 0 [] (by simp) (by simp)
      cases h : readPs c 0 [] (linesS s) with
      | ret q =>
        rw [h] at this hr
        simp only [setR] at hr
        subst hr
        exact .inl ⟨.inr this.1,this.2⟩
      | nxt l =>
        rw [h] at this hr
        simp only [setR] at hr
        subst hr
        obtain ⟨h1,h2⟩ := sort_of this.1
        exact .inr ⟨rfl,rfl,h1,fun k hk => this.2 k ((h2 k).1 hk)⟩
  exact key _ rfl

section
variable {c : List Pack} (hc : c.length ≤ 1048576)
include hc
theorem l3Parse_loop (ps : List ByteArray) (hps : ∀ p ∈ ps,p.size ≤ 100000) (hl : ps.length ≤ 100000) : ∀ (k i : Nat) (S out : List Int),i + k = ps.length → out.length ≤ i → S.length ≤ i → S.Pairwise (· < ·) → (∀ x,x ∈ S ↔ x ∈ out) →
    ∃ t,loop (spec_l3Parse_l1b c ps) (S,(i : Int)) = some t ∧ match readPs c i out (ps.drop i) with
      | .ret r => t = .ret r
      | .nxt l => ∃ S',t = .nxt S' ∧ S'.Pairwise (· < ·) ∧ ∀ x,x ∈ S' ↔ x ∈ l
  | 0,i,S,out,hk,ho,hS,h1,h2 => by
    have e : i = ps.length := by omega
    subst e
    rw [loop_eq]
    unfold spec_l3Parse_l1b
    rw [if_neg (by simp),List.drop_length]
    exact ⟨_,rfl,S,rfl,h1,h2⟩
  | k + 1,i,S,out,hk,ho,hS,h1,h2 => by
    have hi : i < ps.length := by omega
    have hm := List.getElem_mem hi
    have hw := wordsS_size ps[i]
    have hps1 := hps _ hm
    have hb : spec_l3Parse_l1b c ps (S,(i : Int)) = if readPk c (wordsS ps[i]) < 0 ∨ readPk c (wordsS ps[i]) ∈ S then some (.done (.ret { Code := 5,At := i,Set := [] })) else (spec_l3Put S (readPk c (wordsS ps[i]))).bind fun x51 => some (.go (x51,((i + 1 : Nat) : Int))) := by
      unfold spec_l3Parse_l1b
      rw [if_pos (by simp; omega),idx_nat hi]
      simp only [Option.bind_some,l2Words_spec _ (show ps[i].size ≤ 1048577 by omega)]
      rw [readPk_spec c _ hc (fun p hp => by have := hw p hp; omega)]
      simp only [Option.bind_some]
      by_cases hneg : readPk c (wordsS ps[i]) < 0
      · rw [if_pos (by simpa using hneg),if_pos (.inl hneg)]
        rfl
      · rw [if_neg (by simpa using hneg),l1Has_eq S _ (by omega),w64_nat (by omega)]
        simp only [Option.bind_some]
        by_cases hmem : readPk c (wordsS ps[i]) ∈ S
        · rw [if_pos (by simpa using hmem),if_pos (.inr hmem)]
        · rw [if_neg (by simpa using hmem),if_neg (by rw [not_or]; exact ⟨hneg,hmem⟩)]
    rw [loop_eq,hb,List.drop_eq_getElem_cons hi]
    simp only [readPs]
    by_cases hbad : readPk c (wordsS ps[i]) < 0 ∨ readPk c (wordsS ps[i]) ∈ out
    · rw [if_pos hbad,if_pos (by rw [h2]; exact hbad)]
      exact ⟨_,rfl,rfl⟩
    · have hbad2 : ¬ (readPk c (wordsS ps[i]) < 0 ∨ readPk c (wordsS ps[i]) ∈ S) := by rw [h2]; exact hbad
      rw [if_neg hbad,if_neg hbad2]
      obtain ⟨r,er,r1,r2,r3⟩ := put_spec S (readPk c (wordsS ps[i])) h1 (fun h => hbad2 (.inr h)) (by omega)
      rw [er]
      simp only [Option.bind_some,Lp.elim]
      refine l3Parse_loop ps hps hl k (i + 1) r (out ++ [readPk c (wordsS ps[i])]) (by omega) (by simp; omega) (by omega) r1 (fun x => ?_)
      rw [r2,h2,List.mem_append,List.mem_singleton]
end

section
variable {c : List Pack} (hc : c.length ≤ 1048576)
include hc
theorem l3Parse_spec (s : ByteArray) (h : s.size ≤ 90000) : spec_l3Parse c s = some (PS c s) := by
  unfold spec_l3Parse PS
  by_cases h4 : s.size > 4000
  · rw [if_pos (by simp; omega),if_pos h4]
  · rw [if_neg (by simp; omega),if_neg h4,l2Lines_spec s (by omega)]
    simp only [Option.bind_some]
    have hlen := linesS_len s
    obtain ⟨t,e,ht⟩ := l3Parse_loop hc (linesS s) (fun p hp => by have := linesS_size s p hp; omega) (by omega) (linesS s).length 0 [] [] (by omega) (by simp) (by simp) (by simp) (by simp)
    rw [List.drop_zero] at ht
    unfold spec_l3Parse_l1
    rw [show ((0 : Nat) : Int) = 0 from rfl] at e
    rw [e]
    have hg := readPs_good c (linesS s) 0 [] (by simp) (by simp)
    cases hr : readPs c 0 [] (linesS s) with
    | ret r =>
      rw [hr] at ht
      simp only at ht
      subst ht
      rfl
    | nxt l =>
      rw [hr] at ht hg
      obtain ⟨S',rfl,h1,h2⟩ := ht
      obtain ⟨g1,g2⟩ := sort_of hg.1
      have : S' = l.mergeSort (fun x y => decide (x ≤ y)) := sorted_ext h1 g1 (fun x => by rw [h2,g2])
      subst this
      rfl
end

section
variable {c : List Pack} (hc : c.length ≤ 1048576)
include hc
theorem ParseSet_loop (ps : List ByteArray) (hps : ∀ p ∈ ps,p.size ≤ 100000) (hl : ps.length ≤ 100000) : ∀ (k i : Nat) (out : List Int),i + k = ps.length → out.length ≤ i → loop (impl_ParseSet_l1b c ps) (out,(i : Int)) = some (readPs c i out (ps.drop i))
  | 0,i,out,hk,ho => by
    have e : i = ps.length := by omega
    subst e
    rw [loop_eq]
    unfold impl_ParseSet_l1b
    rw [if_neg (by simp),List.drop_length]
    rfl
  | k + 1,i,out,hk,ho => by
    have hi : i < ps.length := by omega
    have hm := List.getElem_mem hi
    have hw := wordsS_size ps[i]
    have hps1 := hps _ hm
    have hb : impl_ParseSet_l1b c ps (out,(i : Int)) = if readPk c (wordsS ps[i]) < 0 ∨ readPk c (wordsS ps[i]) ∈ out then some (.done (.ret { Code := 5,At := i,Set := [] })) else some (.go (out ++ [readPk c (wordsS ps[i])],((i + 1 : Nat) : Int))) := by
      unfold impl_ParseSet_l1b
      rw [if_pos (by simp; omega),idx_nat hi]
      simp only [Option.bind_some,wordsOf_impl _ (show ps[i].size ≤ 1048575 by omega)]
      rw [readPack_impl c _ hc (fun p hp => by have := hw p hp; omega)]
      simp only [Option.bind_some]
      rw [app_of (by simp; omega) (by simp; omega),w64_nat (by omega)]
      by_cases hneg : readPk c (wordsS ps[i]) < 0
      · rw [if_pos (by simpa using hneg),if_pos (.inl hneg)]
        rfl
      · rw [if_neg (by simpa using hneg),Index_eq out _ (by omega)]
        simp only [Option.bind_some]
        by_cases hmem : readPk c (wordsS ps[i]) ∈ out
        · rw [if_pos (by simpa using hmem),if_pos (.inr hmem)]
        · rw [if_neg (by simpa using hmem),if_neg (by rw [not_or]; exact ⟨hneg,hmem⟩)]
    rw [loop_eq,hb,List.drop_eq_getElem_cons hi]
    simp only [readPs]
    by_cases hbad : readPk c (wordsS ps[i]) < 0 ∨ readPk c (wordsS ps[i]) ∈ out
    · rw [if_pos hbad,if_pos hbad]
      rfl
    · rw [if_neg hbad,if_neg hbad]
      simp only [Option.bind_some,Lp.elim]
      exact ParseSet_loop ps hps hl k (i + 1) (out ++ [readPk c (wordsS ps[i])]) (by omega) (by simp; omega)
end

theorem ParseSet_impl {c : List Pack} (hC : Cat c) (s : ByteArray) (h : s.size ≤ 90000) : impl_ParseSet c s = some (if CF c != 0 then { Code := CF c,At := 0,Set := [] } else PS c s) := by
  have hc := hC.1
  unfold impl_ParseSet PS
  rw [CatalogFault_impl c hC]
  simp only [Option.bind_some]
  cases CF c != 0
  case true => rfl
  simp only [Bool.false_eq_true,if_false]
  by_cases h4 : s.size > 4000
  · rw [if_pos (by simp; omega),if_pos h4]
  · rw [if_neg (by simp; omega),if_neg h4,linesOf_impl s (by omega)]
    simp only [Option.bind_some]
    have hlen := linesS_len s
    have e := ParseSet_loop hc (linesS s) (fun p hp => by have := linesS_size s p hp; omega) (by omega) (linesS s).length 0 [] (by omega) (by simp)
    rw [List.drop_zero,show ((0 : Nat) : Int) = 0 from rfl] at e
    unfold impl_ParseSet_l1
    rw [e]
    have hlp : ∀ (ps : List ByteArray) (i : Nat) (out l : List Int),readPs c i out ps = .nxt l → l.length ≤ out.length + ps.length := by
      intro ps
      induction ps with
      | nil => intro i out l h; cases h; simp
      | cons s ps ih =>
        intro i out l h
        simp only [readPs] at h
        split at h
        · cases h
        · have := ih _ _ _ h
          simp at this ⊢
          omega
    cases hr : readPs c 0 [] (linesS s) with
    | ret r => rfl
    | nxt l =>
      have hl := hlp _ _ _ _ hr
      simp only [Option.bind_some,Fl.go]
      unfold slices_Sort_Lint64r
      rw [if_pos (by simp at hl; omega)]
      simp only [Option.bind_some]
      rw [same_of (by rw [List.length_mergeSort])]
      rfl

/-! ### The set of a generation -/
theorem genOf_genL {l : List Int} {n : Int} (hp : l.take 4 = genP) (hl : 4 ≤ l.length) (h : genOf l = some n) : l = genL n ∧ 1 ≤ n ∧ n ≤ 999999 := by
  unfold genOf at h
  cases hn : numL (l.drop 4) 6 with
  | none => rw [hn] at h; cases h
  | some m =>
    rw [hn] at h
    simp only at h
    split at h
    · rename_i hc
      cases h
      have e := (gen_iff hp hl hn).2 hc
      by_cases hr : 1 ≤ n ∧ n ≤ 999999
      · rw [if_pos hr] at e
        refine ⟨?_,hr⟩
        have hpd := decL_pad 5 n.toNat (by omega)
        rw [show 10 ^ (5 + 1) + n.toNat = 1000000 + n.toNat by omega] at hpd
        rw [← e,hpd]
        rfl
      · rw [if_neg hr] at e
        rw [← e] at hc
        simp at hc
    · cases h

theorem gens_file {fs : List File} {n : Int} (h : n ∈ gensL fs) : (∃ f ∈ fs,f.Path = genS n) ∧ 1 ≤ n ∧ n ≤ 999999 := by
  unfold gensL at h
  obtain ⟨p,hp,hg⟩ := List.mem_filterMap.1 h
  have hb := begins_bl (pathsOf_mem p hp)
  rw [bl_gen] at hb
  obtain ⟨e,h1⟩ := genOf_genL hb.1 hb.2 hg
  refine ⟨?_,h1⟩
  unfold pathsOf at hp
  obtain ⟨f,hf,rfl⟩ := List.mem_map.1 hp
  exact ⟨f,(List.mem_filter.1 hf).1,bl_inj.1 (e.trans (bl_genS n).symm)⟩

def codeS (c : Int) : SetResult := { Code := c,At := 0,Set := [] }

/-- The set of a generation. -/
def setOfD (c : List Pack) (d : Disk) (n : Int) : SetResult := if n ∈ gensL d.Files then (match fileOf d (genS n) with
  | some f => if (PS c (b2s f.Data)).Code != 0 then codeS (PS c (b2s f.Data)).Code else PS c (b2s f.Data)
  | none => codeS 0) else codeS 4

theorem setOfD_good (c : List Pack) (d : Disk) (n : Int) : ((setOfD c d n).Code ≠ 0 → (setOfD c d n).Set = []) ∧ (setOfD c d n).At = 0 ∧ (setOfD c d n).Set.Pairwise (· < ·) ∧ (∀ k ∈ (setOfD c d n).Set,0 ≤ k ∧ k < c.length) := by
  have key : ∀ r,r = setOfD c d n → (r.Code ≠ 0 → r.Set = []) ∧ r.At = 0 ∧ r.Set.Pairwise (· < ·) ∧ (∀ k ∈ r.Set,0 ≤ k ∧ k < c.length) := by
    intro r hr
    have hcode : ∀ x,(codeS x).Set = [] ∧ (codeS x).At = 0 := fun x => ⟨rfl,rfl⟩
    unfold setOfD at hr
    split at hr
    · split at hr
      · split at hr
        · subst hr; exact ⟨fun _ => rfl,rfl,by rw [(hcode _).1]; simp,by rw [(hcode _).1]; simp⟩
        · rename_i f _ hc
          subst hr
          rcases PS_cases c (b2s f.Data) with ⟨h,_⟩ | ⟨h1,h2,h3,h4⟩
          · rcases h with h | h <;> rw [h] at hc <;> simp at hc
          · exact ⟨fun h => absurd h1 h,h2,h3,h4⟩
      · subst hr; exact ⟨fun _ => rfl,rfl,by rw [(hcode _).1]; simp,by rw [(hcode _).1]; simp⟩
    · subst hr; exact ⟨fun _ => rfl,rfl,by rw [(hcode _).1]; simp,by rw [(hcode _).1]; simp⟩
  exact key _ rfl

theorem file_there {d : Disk} (hg : d.good) {p : ByteArray} (h : ∃ f ∈ d.Files,f.Path = p) : ∃ k : Nat,∃ hk : k < d.Files.length,spec_l7Find d p = some (k : Int) ∧ impl_Disk_data d p = some (d.Files[k].Data,true) ∧ fileOf d p = some d.Files[k] := by
  rcases file_both d p hg with h1 | ⟨_,_,h3⟩
  · exact h1
  · obtain ⟨f,hf,hp⟩ := h
    unfold fileOf at h3
    have := List.find?_eq_none.1 h3 f hf
    simp [hp] at this

section
variable {c : List Pack} {d : Disk} (hc : c.length ≤ 1048576) (hg : d.good) (hb : Byt d)
include hc hg hb in
theorem l8Set_spec (n : Int) : spec_l8Set c d n = some (setOfD c d n) := by
  have hfl : d.Files.length ≤ 1048576 := by have := hg.len; omega
  have hgl := gensL_length d.Files
  unfold spec_l8Set setOfD
  rw [l8Gens_eq d hfl]
  simp only [Option.bind_some]
  rw [l1Has_eq _ _ (by omega)]
  simp only [Option.bind_some]
  by_cases hm : n ∈ gensL d.Files
  · obtain ⟨hf,h1,h2⟩ := gens_file hm
    obtain ⟨k,hk,e1,_,e3⟩ := file_there hg hf
    have hmem := List.getElem_mem hk
    have hdat := hg.data _ hmem
    rw [if_neg (by simpa using hm),if_pos hm,GenPath_spec,show inB n 1 999999 = true by unfold inB; simp; omega]
    simp only [Option.bind_some,if_true,e1]
    rw [idx_nat hk]
    simp only [Option.bind_some]
    rw [l3Parse_spec hc _ (by rw [← bl_length,bl_b2s (hb _ hmem)]; omega),e3]
    simp only [Option.bind_some]
    cases (PS c (b2s d.Files[k].Data)).Code != 0 <;> rfl
  · rw [if_pos (by simpa using hm),if_neg hm]
    rfl
end

section
variable {c : List Pack} {d : Disk} (hc : c.length ≤ 1048576) (hg : d.good) (hb : Byt d)
include hg hb in
theorem setOf_impl (hC : Cat c) (h0 : CF c = 0) (n : Int) : impl_setOf c d n = some ((setOfD c d n).Set,(setOfD c d n).Code) := by
  have hfl : d.Files.length ≤ 1048576 := by have := hg.len; omega
  have hgl := gensL_length d.Files
  unfold impl_setOf setOfD
  rw [gens_eq d hfl]
  simp only [Option.bind_some]
  rw [Index_eq _ _ (by omega)]
  simp only [Option.bind_some]
  by_cases hm : n ∈ gensL d.Files
  · obtain ⟨hf,h1,h2⟩ := gens_file hm
    obtain ⟨k,hk,_,e2,e3⟩ := file_there hg hf
    have hmem := List.getElem_mem hk
    have hdat := hg.data _ hmem
    rw [if_neg (by simpa using hm),if_pos hm,genPath_impl (by omega) h2]
    simp only [Option.bind_some,e2]
    rw [ParseSet_impl hC _ (by rw [← bl_length,bl_b2s (hb _ hmem)]; omega),e3,h0]
    simp only [bne_self_eq_false,Bool.false_eq_true,if_false,Option.bind_some]
    rcases PS_cases c (b2s d.Files[k].Data) with ⟨h,h'⟩ | ⟨h,_⟩
    · have hn : ((PS c (b2s d.Files[k].Data)).Code != 0) = true := by rcases h with h | h <;> rw [h] <;> rfl
      rw [hn,h']
      rfl
    · simp [h]
  · rw [if_pos (by simpa using hm),if_neg hm]
    rfl
end

section
variable {c : List Pack} {d : Disk} (hc : c.length ≤ 1048576) (hg : d.good) (hb : Byt d)
/-- The set that is seen. -/
def shownD (c : List Pack) (d : Disk) : SetResult := match curOf d with
  | some n => setOfD c d n
  | none => codeS 4
end

section
variable {c : List Pack} {d : Disk} (hc : c.length ≤ 1048576) (hg : d.good) (hb : Byt d)
theorem zero_gens (d : Disk) : (0 : Int) ∉ gensL d.Files := fun h => by have := gensL_mem h; omega
end

section
variable {c : List Pack} {d : Disk} (hc : c.length ≤ 1048576) (hg : d.good) (hb : Byt d)
include hc hg hb in
theorem l8Shown_spec : spec_l8Shown c d = some (shownD c d) := by
  unfold spec_l8Shown shownD
  rw [(current_both d hg hb).1]
  simp only [Option.bind_some,l8Set_spec hc hg hb]
  cases curOf d with
  | some n => rfl
  | none =>
    simp only [Option.getD_none]
    unfold setOfD
    rw [if_neg (zero_gens d)]
end

section
variable {c : List Pack} {d : Disk} (hc : c.length ≤ 1048576) (hg : d.good) (hb : Byt d)
include hg hb in
theorem shown_impl (hC : Cat c) (h0 : CF c = 0) : impl_shown c d = some ((shownD c d).Set,(shownD c d).Code) := by
  unfold impl_shown shownD
  rw [(current_both d hg hb).2]
  cases h : curOf d with
  | some n =>
    simp only [Option.bind_some,Option.getD_some,bne_self_eq_false,Bool.false_eq_true,if_false]
    rw [setOf_impl hg hb hC h0]
    rfl
  | none => rfl
end

theorem shownD_good (c : List Pack) (d : Disk) : ((shownD c d).Code ≠ 0 → (shownD c d).Set = []) ∧ (shownD c d).At = 0 ∧ (shownD c d).Set.Pairwise (· < ·) ∧ (∀ k ∈ (shownD c d).Set,0 ≤ k ∧ k < c.length) := by
  unfold shownD
  split
  · exact setOfD_good c d _
  · exact ⟨fun _ => rfl,rfl,by show List.Pairwise _ []; simp,by show ∀ k ∈ [],_; simp⟩

/-- All that a catalog and a disk tell first. -/
theorem asked_cases {c : List Pack} {d : Disk} (hC : Cat c) (hd : Disk.sm 1048576 d) : (∃ q,q ≠ 0 ∧ spec_l8Asked c d = some q ∧ impl_bothCode c d = some q) ∨ (spec_l8Asked c d = some 0 ∧ impl_bothCode c d = some 0 ∧ CF c = 0 ∧ d.good) := by
  obtain ⟨k,ek,hk⟩ := DiskFault_spec d hd.1.1
  rw [Asked_spec hC k ek,both_impl hC k ek]
  by_cases h0 : CF c = 0
  · by_cases h1 : k = 0
    · exact .inr ⟨by simp [h0,h1],by simp [h0,h1],h0,hk h1⟩
    · exact .inl ⟨k,h1,by simp [h0],by simp [h0]⟩
  · exact .inl ⟨CF c,h0,by simp [h0],by simp [h0]⟩

theorem rise_cat {c : List Pack} {l : List Int} (hc : c.length ≤ 1048576) (h1 : l.Pairwise (· < ·)) (h2 : ∀ k ∈ l,0 ≤ k ∧ k < c.length) : l.length ≤ 1048576 := by
  rcases rise_len (lo := 0) (hi := c.length) h1 h2 with h | h
  · omega
  · rw [h]; simp

/-! ### Whole systems -/
theorem isWhole_impl {c : List Pack} {d : Disk} {a : List Int} (hC : Cat c) (h0 : CF c = 0) (hg : d.good) (hs : setB c a = true) (ha : a.length ≤ 1048576) :
    impl_isWhole c d a = some (((faultsL c a).length : Int) == 0 && ((lackL c d a).length : Int) == 0) := by
  have hS : SF c a = 0 := by unfold SF; simp [h0,hs]
  have hp := (setB_spec.1 hs).2
  unfold impl_isWhole
  rw [consistent_impl hC ha (by rw [hS]; rfl),lacking_impl (CF_pkz h0) hg hp ha]
  unfold conB
  rw [hS]
  simp only [Option.bind_some,beq_self_eq_true,Bool.true_and]
  cases ((faultsL c a).length : Int) == 0 <;> rfl

theorem l3Good_spec {c : List Pack} {a : List Int} (hC : Cat c) (hp : Places c a) (ha : a.length ≤ 1048576) : spec_l3Good c a = some (((faultsL c a).length : Int) == 0) := by
  unfold spec_l3Good
  rw [faults_spec hC hp ha]
  rfl

/-- What a system tells behind its catalog and its disk. -/
def sysD (c : List Pack) (d : Disk) : Int :=
  if (shownD c d).Code != 0 then (shownD c d).Code else
  if !(((faultsL c (shownD c d).Set).length : Int) == 0 && ((lackL c d (shownD c d).Set).length : Int) == 0) then 1 else
  match rootsOfD d with | some _ => 0 | none => 5

theorem System_both {s : System} (hC : Cat s.Catalog) (hd : Disk.sm 1048576 s.Disk) (hb : Byt s.Disk) :
    (∃ q,q ≠ 0 ∧ spec_SystemFault s = some q ∧ impl_SystemFault s = some q) ∨
    (spec_SystemFault s = some (sysD s.Catalog s.Disk) ∧ impl_SystemFault s = some (sysD s.Catalog s.Disk) ∧ CF s.Catalog = 0 ∧ s.Disk.good) := by
  obtain ⟨c,d⟩ := s
  simp only at hC hd hb ⊢
  unfold spec_SystemFault impl_SystemFault
  simp only
  rcases asked_cases hC hd with ⟨q,h,e1,e2⟩ | ⟨e1,e2,h0,hg⟩
  · rw [e1,e2]
    have hn : (q != 0) = true := by simpa using h
    simp only [Option.bind_some,hn,if_true]
    exact .inl ⟨q,h,rfl,rfl⟩
  · refine .inr ?_
    rw [e1,e2]
    simp only [Option.bind_some,bne_self_eq_false,Bool.false_eq_true,if_false]
    rw [l8Shown_spec hC.1 hg hb,shown_impl hg hb hC h0]
    obtain ⟨h1,h2,h3,h4⟩ := shownD_good c d
    have ha : (shownD c d).Set.length ≤ 1048576 := rise_cat hC.1 h3 h4
    have hp : Places c (shownD c d).Set := h4
    have hs : setB c (shownD c d).Set = true := setB_spec.2 ⟨h3,hp⟩
    obtain ⟨o,eo⟩ := Asks_spec hg hb
    simp only [Option.bind_some]
    rw [l3Good_spec hC hp ha,isWhole_impl hC h0 hg hs ha,l8Lacking_spec (CF_pkz h0) hg hb hp ha,eo,roots_impl hg hb]
    simp only [Option.bind_some]
    unfold sysD
    refine ⟨?_,?_,h0,hg⟩
    · cases hc : (shownD c d).Code != 0
      · simp only [Bool.false_eq_true,if_false]
        cases hf : ((faultsL c (shownD c d).Set).length : Int) == 0
        · simp
        · have hl : decide (((lackL c d (shownD c d).Set).length : Int) > 0) = !(((lackL c d (shownD c d).Set).length : Int) == 0) := by
            cases lackL c d (shownD c d).Set with
            | nil => rfl
            | cons x l => simp <;> omega
          simp only [Bool.not_true,Bool.false_eq_true,if_false,Option.bind_some,hl,Bool.true_and]
          cases ((lackL c d (shownD c d).Set).length : Int) == 0
          · simp
          · cases rootsOfD d <;> simp
      · simp
    · cases hc : (shownD c d).Code != 0
      · simp only [Bool.false_eq_true,if_false]
        cases (((faultsL c (shownD c d).Set).length : Int) == 0 && ((lackL c d (shownD c d).Set).length : Int) == 0)
        · simp
        · cases rootsOfD d <;> simp
      · simp

theorem SystemFault_both (a1 : System) (k0 : System.ok a1) (s0 : (System.sm 1048576 a1)) : ∃ r,spec_SystemFault a1 = some r ∧ impl_SystemFault a1 = some r ∧ (True) := by
  have hb : Byt a1.Disk := fun f hf c hc => by have := (k0.2.1.2 f hf).2.2 c hc; simpa [IntKind.min,IntKind.max,IntKind.signed,IntKind.bits] using this
  rcases System_both s0.1 s0.2 hb with ⟨q,_,e1,e2⟩ | ⟨e1,e2,_⟩
  · exact ⟨q,e1,e2,trivial⟩
  · exact ⟨_,e1,e2,trivial⟩

theorem FnExactSystemFault_law (a1 : System) (k0 : System.ok a1) : laws_FnExactSystemFault a1 = some true := FnExactSystemFault_true a1 k0 (SystemFault_both a1 k0)
end Go.Told

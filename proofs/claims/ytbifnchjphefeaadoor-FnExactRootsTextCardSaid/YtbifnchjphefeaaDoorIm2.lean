import Derived.Test.YtbifnchjphefeaaDoorIm1
import Derived.Orders
set_option linter.unusedVariables false
namespace Go.Im
open Go

inductive Ent where
  | box (cs : List D)
  | row (z : Nat) (xs : List (List D))
  | lent (z : Nat) (xs : List (List D)) (i j t n : Nat)

def Ent.men : Ent → List Nat
  | .box cs => D.men.menL cs
  | .row _ _ => []
  | .lent _ _ _ _ t _ => [t]

structure St where
  tm : List (Nat × D)
  hp : List (Nat × Ent)
  us : List Nat

structure Ctx where
  P : Program
  fid : FuncId
  w0 : World
  N0 : Nat → Prop
  O0 : List Nat
  m : Nat
  β0 : Nat → Loc
  nt : Nat

def EntRep (β : Nat → Loc) (N : Nat → Prop) (w : World) (L : Loc) (bs : List Nat) : Ent → Prop
  | .box cs => L.nil = false ∧ L.z = cs.length ∧ ∃ ws, Own w L.b L.o L.r ws ∧ (∀ x ∈ ws, Value.oneCell x = true) ∧ RepCs β N w true cs ws bs
  | .row z xs => L.z = z ∧ (∀ x ∈ xs, x.length = z) ∧ ((L.nil = true ∧ xs = [] ∧ bs = []) ∨ (L.nil = false ∧ ∃ ws, Own w L.b L.o L.r ws ∧ RepEs β N w xs ws bs))
  | .lent z xs i j t n => L.nil = false ∧ L.z = z ∧ (∀ x ∈ xs, x.length = z) ∧ ∃ ws, Own w L.b L.o L.r ws ∧ RepEs β N w (xs.modify i (fun c => c.set j .un)) ws bs ∧
      ∃ v, ws[i * z + j]? = some v ∧ Rep β N w true (.rf t 0 n none) v []

def HRep (β : Nat → Loc) (N : Nat → Prop) (w : World) : List (Nat × Ent) → List Nat → Prop
  | [], bs => bs = []
  | (t, e) :: hp, bs => ∃ b1 b2, bs = (β t).own ++ (b1 ++ b2) ∧ EntRep β N w (β t) b1 e ∧ HRep β N w hp b2

/-- The stable blocks. -/
def NS (Γ : Ctx) (w : World) (bs : List Nat) (b : Nat) : Prop := (Γ.N0 b ∨ b ∈ Γ.O0 ∨ Γ.w0.heap.size ≤ b) ∧ b < w.heap.size ∧ b ∉ bs

def TRep (β : Nat → Loc) (N : Nat → Prop) (w : World) (tmps : Array Value) (tm : List (Nat × D)) : Prop :=
  ∀ t d, (t, d) ∈ tm → ∃ v, tmps[t]? = some v ∧ Rep β N w true d v []

/-- What the tables of Go's library hold. -/
def gtabOf (n : String) : Option (List Value) :=
  if n = "math/bits.deBruijn32tab" then some [.int .u8 0, .int .u8 1, .int .u8 28, .int .u8 2, .int .u8 29, .int .u8 14, .int .u8 24, .int .u8 3, .int .u8 30, .int .u8 22, .int .u8 20, .int .u8 15, .int .u8 25, .int .u8 17, .int .u8 4, .int .u8 8, .int .u8 31, .int .u8 27, .int .u8 13, .int .u8 23, .int .u8 21, .int .u8 19, .int .u8 16, .int .u8 7, .int .u8 26, .int .u8 12, .int .u8 18, .int .u8 6, .int .u8 11, .int .u8 5, .int .u8 10, .int .u8 9]
  else if n = "math/bits.deBruijn64tab" then some [.int .u8 0, .int .u8 1, .int .u8 56, .int .u8 2, .int .u8 57, .int .u8 49, .int .u8 28, .int .u8 3, .int .u8 61, .int .u8 58, .int .u8 42, .int .u8 50, .int .u8 38, .int .u8 29, .int .u8 17, .int .u8 4, .int .u8 62, .int .u8 47, .int .u8 59, .int .u8 36, .int .u8 45, .int .u8 43, .int .u8 51, .int .u8 22, .int .u8 53, .int .u8 39, .int .u8 33, .int .u8 30, .int .u8 24, .int .u8 18, .int .u8 12, .int .u8 5, .int .u8 63, .int .u8 55, .int .u8 48, .int .u8 27, .int .u8 60, .int .u8 41, .int .u8 37, .int .u8 16, .int .u8 46, .int .u8 35, .int .u8 44, .int .u8 21, .int .u8 52, .int .u8 32, .int .u8 23, .int .u8 11, .int .u8 54, .int .u8 26, .int .u8 40, .int .u8 15, .int .u8 34, .int .u8 20, .int .u8 31, .int .u8 10, .int .u8 25, .int .u8 14, .int .u8 19, .int .u8 9, .int .u8 13, .int .u8 8, .int .u8 7, .int .u8 6]
  else if n = "internal/strconv.uint64pow10" then some [.int .u64 1, .int .u64 10, .int .u64 100, .int .u64 1000, .int .u64 10000, .int .u64 100000, .int .u64 1000000, .int .u64 10000000, .int .u64 100000000, .int .u64 1000000000, .int .u64 10000000000, .int .u64 100000000000, .int .u64 1000000000000, .int .u64 10000000000000, .int .u64 100000000000000, .int .u64 1000000000000000, .int .u64 10000000000000000, .int .u64 100000000000000000, .int .u64 1000000000000000000, .int .u64 10000000000000000000]
  else none

/-- The tables that a program names, with their blocks. -/
def gtab (P : Program) : List (Nat × List Value) := P.globals.toList.zipIdx.filterMap fun x => (gtabOf x.1.name).map fun ws => (x.2, ws)

/-- A block that holds a table, and nothing else. -/
def Tab (w : World) (b : Nat) (ws : List Value) : Prop := ∃ e fz, w.heap[b]? = some (.cells ws.toArray e fz)

structure RelB (Γ : Ctx) (β : Nat → Loc) (bs : List Nat) (σ : St) (a : Act) (w : World) : Prop where
  defers : a.defers = []
  size : a.tmps.size = Γ.nt
  keys : (σ.hp.map (·.1)).Nodup
  par : ∀ k, k < Γ.m → β k = Γ.β0 k
  grow : Γ.w0.heap.size ≤ w.heap.size
  quiet : w.os = Γ.w0.os ∧ w.output = Γ.w0.output
  keep : ∀ b, b < Γ.w0.heap.size → b ∉ Γ.O0 → w.heap[b]? = Γ.w0.heap[b]?
  hp : HRep β (NS Γ w bs) w σ.hp bs
  nodup : bs.Nodup
  own : ∀ b ∈ bs, b < w.heap.size ∧ (b ∈ Γ.O0 ∨ Γ.w0.heap.size ≤ b)
  tm : TRep β (NS Γ w bs) w a.tmps σ.tm
  gh : ∀ q ∈ gtab Γ.P, Γ.N0 q.1 ∧ q.1 < Γ.w0.heap.size ∧ q.1 ∉ Γ.O0 ∧ Tab Γ.w0 q.1 q.2

/-- The tables still hold it. -/
theorem RelB.tables {Γ : Ctx} {β : Nat → Loc} {bs : List Nat} {σ : St} {a : Act} {w : World} (h : RelB Γ β bs σ a w) : ∀ q ∈ gtab Γ.P, NS Γ w bs q.1 ∧ Tab w q.1 q.2 := by
  intro q hq
  obtain ⟨h1, h2, h3, h4⟩ := h.gh q hq
  refine ⟨⟨.inl h1, Nat.lt_of_lt_of_le h2 h.grow, fun hb => ?_⟩, by obtain ⟨e, fz, h4⟩ := h4; exact ⟨e, fz, (h.keep _ h2 h3).trans h4⟩⟩
  rcases (h.own _ hb).2 with h5 | h5
  · exact h3 h5
  · omega

def menT (tm : List (Nat × D)) : List Nat := tm.flatMap (fun x => x.2.men)
def menH (hp : List (Nat × Ent)) : List Nat := hp.flatMap (fun x => x.1 :: x.2.men)

def Rel (Γ : Ctx) (σ : St) (a : Act) (w : World) : Prop := (∀ t, t ∈ menT σ.tm ∨ t ∈ menH σ.hp → t ∈ σ.us) ∧ ∃ β bs, RelB Γ β bs σ a w

theorem EntRep.frame {β β' : Nat → Loc} {N N' : Nat → Prop} {w w' : World} {L : Loc} {bs : List Nat} {e : Ent} (hN : ∀ b, N b → N' b ∧ w'.heap[b]? = w.heap[b]?)
    (hb : ∀ b ∈ bs, w'.heap[b]? = w.heap[b]?) (hL : L.nil = false → w'.heap[L.b]? = w.heap[L.b]?) (hm : ∀ t ∈ e.men, β' t = β t) (h : EntRep β N w L bs e) : EntRep β' N' w' L bs e := by
  cases e with
  | box cs =>
    obtain ⟨h0, h1, ws, h2, h3, h4⟩ := h
    exact ⟨h0, h1, ws, h2.frame (hL h0), h3, RepCs.frame hN cs true ws bs hb hm h4⟩
  | row z xs =>
    obtain ⟨h1, h2, h⟩ := h
    refine ⟨h1, h2, ?_⟩
    rcases h with h | ⟨h0, ws, h3, h4⟩
    · exact .inl h
    · exact .inr ⟨h0, ws, h3.frame (hL h0), RepEs.frame hN xs ws bs hb h4⟩
  | lent z xs i j t n =>
    obtain ⟨h0, h1, h2, ws, h3, h4, v, h5, h6⟩ := h
    exact ⟨h0, h1, h2, ws, h3.frame (hL h0), RepEs.frame hN _ ws bs hb h4, v, h5, Rep.frame hN _ _ _ _ (by simp) (fun k hk => hm k (by simpa [Ent.men, D.men] using hk)) h6⟩

theorem HRep.frame {β β' : Nat → Loc} {N N' : Nat → Prop} {w w' : World} (hN : ∀ b, N b → N' b ∧ w'.heap[b]? = w.heap[b]?) : ∀ (hp : List (Nat × Ent)) (bs : List Nat),
    (∀ b ∈ bs, w'.heap[b]? = w.heap[b]?) → (∀ t ∈ hp.flatMap (fun x => x.1 :: x.2.men), β' t = β t) → HRep β N w hp bs → HRep β' N' w' hp bs
  | [], bs, _, _, h => h
  | (t, e) :: hp, bs, hb, hm, h => by
    obtain ⟨b1, b2, h1, h2, h3⟩ := h
    subst h1
    have ht : β' t = β t := hm t (by simp)
    refine ⟨b1, b2, by rw [ht], ?_, HRep.frame hN hp b2 (fun b hb' => hb b (by simp [hb'])) (fun t' ht' => hm t' (by simp only [List.flatMap_cons, List.mem_append]; exact .inr ht')) h3⟩
    rw [ht]
    exact h2.frame hN (fun b hb' => hb b (by simp [hb'])) (fun hn => hb _ (by simp [Loc.own, hn])) (fun t' ht' => hm t' (by simp [ht']))

theorem TRep.frame {β β' : Nat → Loc} {N N' : Nat → Prop} {w w' : World} {tmps : Array Value} {tm : List (Nat × D)} (hN : ∀ b, N b → N' b ∧ w'.heap[b]? = w.heap[b]?)
    (hm : ∀ t ∈ tm.flatMap (fun x => x.2.men), β' t = β t) (h : TRep β N w tmps tm) : TRep β' N' w' tmps tm := by
  intro t d hd
  obtain ⟨v, h1, h2⟩ := h t d hd
  exact ⟨v, h1, Rep.frame hN d true v [] (by simp) (fun t' ht' => hm t' (List.mem_flatMap.2 ⟨_, hd, ht'⟩)) h2⟩

/-- Looking up. -/
theorem HRep.get {β : Nat → Loc} {N : Nat → Prop} {w : World} : ∀ {hp : List (Nat × Ent)} {bs : List Nat} {t : Nat} {e : Ent}, HRep β N w hp bs → (t, e) ∈ hp →
    ∃ b1, EntRep β N w (β t) b1 e ∧ (∀ b ∈ (β t).own, b ∈ bs) ∧ ∀ b ∈ b1, b ∈ bs
  | (t', e') :: hp, bs, t, e, h, hm => by
    obtain ⟨b1, b2, h1, h2, h3⟩ := h
    subst h1
    rcases List.mem_cons.1 hm with heq | hm
    · cases heq
      exact ⟨b1, h2, fun b hb => by simp [hb], fun b hb => by simp [hb]⟩
    · obtain ⟨b1', h4, h5, h6⟩ := HRep.get h3 hm
      exact ⟨b1', h4, fun b hb => by simp [h5 b hb], fun b hb => by simp [h6 b hb]⟩

/-- A run that touches no memory. -/
def pureSem (P : Program) {α : Type} : Sem α → Option α
  | .pure a => some a
  | .program k => pureSem P (k P)
  | _ => none

theorem pureSem_run {P : Program} {α : Type} (s : Sem α) (x : α) (w : World) (h : pureSem P s = some x) : s.run P w = .ok x w := by
  induction s with
  | pure a => simp [pureSem] at h; simp [Sem.run, h]
  | program k ih => simp only [pureSem] at h; simp only [Sem.run]; exact ih P h
  | _ => simp [pureSem] at h

end Go.Im

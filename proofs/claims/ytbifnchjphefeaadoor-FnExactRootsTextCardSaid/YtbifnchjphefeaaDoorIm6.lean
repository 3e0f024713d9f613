import Derived.Test.YtbifnchjphefeaaDoorIm5
set_option linter.unusedVariables false
namespace Go.Im
open Go

theorem add_none (b off n : Nat) : Addr.add ⟨b, off, none⟩ n = ⟨b, off + n, none⟩ := by
  unfold Addr.add
  split
  · rename_i h; subst h; rfl
  · rfl

theorem cell_of {w : World} {b off : Nat} {arr : Array Value} {e : TypeId} {fz : Nat × Nat} (h : w.heap[b]? = some (.cells arr e fz)) : w.cell? ⟨b, off, none⟩ = arr[off]? := by
  simp [World.cell?, h]

theorem run_bind {P : Program} {α β : Type} (s : Sem α) (f : α → Sem β) (w : World) : (s >>= f).run P w = match s.run P w with
    | .ok a w' => (f a).run P w'
    | .halt h w' => .halt h w' := by
  show (Sem.bind s f).run P w = _
  induction s generalizing w with
  | pure a => simp [Sem.bind, Sem.run]
  | load m a k ih =>
    simp only [Sem.bind, Sem.run]
    cases hc : w.cell? a with
    | some v => simp only [ih]
    | none =>
      simp only
      cases hf : w.farLoad P a (m == .atomic) with
      | ok r => obtain ⟨v, l⟩ := r; simp only [ih]
      | error h => simp only
  | store m a v k ih =>
    cases v <;> simp only [Sem.bind, Sem.run] <;>
      first
        | rfl
        | (cases hc : w.cell? a with
           | some v => simp only; split <;> simp only [ih]
           | none =>
             simp only
             cases hf : w.farStore P a _ (m == .atomic) with
             | ok r => obtain ⟨v, l⟩ := r; simp only [ih]
             | error h => simp only)
  | new o k ih => simp only [Sem.bind, Sem.run, ih]
  | shape r k ih => simp only [Sem.bind, Sem.run, ih]
  | freeze a n k ih => simp only [Sem.bind, Sem.run, ih]
  | frozen a k ih => simp only [Sem.bind, Sem.run, ih]
  | getObj r k ih =>
    simp only [Sem.bind, Sem.run]
    split <;> simp only [ih]
  | setObj r o k ih =>
    simp only [Sem.bind, Sem.run]
    split <;> simp only [ih]
  | choose q k ih =>
    simp only [Sem.bind, Sem.run]
    split <;> simp only [ih]
  | sys c k ih => simp only [Sem.bind, Sem.run, ih]
  | program k ih => simp only [Sem.bind, Sem.run, ih]
  | mark m k ih => simp only [Sem.bind, Sem.run, ih]
  | halt h => simp [Sem.bind, Sem.run]

theorem run_bind_ok {P : Program} {α β : Type} {s : Sem α} {f : α → Sem β} {w w' : World} {a : α} (h : s.run P w = .ok a w') : (s >>= f).run P w = (f a).run P w' := by
  rw [run_bind, h]

theorem run_pure {P : Program} {α : Type} (a : α) (w : World) : (pure a : Sem α).run P w = .ok a w := rfl

theorem run_load {P : Program} {w : World} {b off : Nat} {v : Value} (h : w.cell? ⟨b, off, none⟩ = some v) (m : Mode) : (load ⟨b, off, none⟩ m).run P w = .ok v w := by
  simp [load, Sem.run, h]

theorem run_loadFrom {P : Program} {w : World} {b off : Nat} : ∀ (n i : Nat) (acc : Array Value) (ws : List Value), (∀ k (h : k < ws.length), w.cell? ⟨b, off + i + k, none⟩ = some ws[k]) → ws.length = n →
    (loadCellsFrom ⟨b, off, none⟩ i n acc).run P w = .ok (acc ++ ws.toArray) w
  | 0, i, acc, ws, _, hl => by
    have : ws = [] := List.length_eq_zero_iff.1 hl
    subst this
    simp [loadCellsFrom, run_pure]
  | n + 1, i, acc, [], _, hl => by simp at hl
  | n + 1, i, acc, v :: ws, h, hl => by
    simp only [loadCellsFrom]
    rw [run_bind_ok (a := v) (w' := w)]
    · rw [run_loadFrom n (i + 1) (acc.push v) ws]
      · simp
      · intro k hk
        have := h (k + 1) (by simp [hk])
        rw [show off + (i + 1) + k = off + i + (k + 1) by omega]
        simpa using this
      · simpa using hl
    · rw [add_none]
      exact run_load (h 0 (by simp)) _

theorem Has.cell {w : World} {b off : Nat} {ws : List Value} (h : Has w b off ws) (k : Nat) (hk : k < ws.length) : w.cell? ⟨b, off + k, none⟩ = some ws[k] := by
  obtain ⟨arr, e, fz, h1, h2⟩ := h
  rw [cell_of h1]
  exact h2 k hk

theorem Has.sub {w : World} {b off : Nat} {ws : List Value} (h : Has w b off ws) (i n : Nat) : Has w b (off + i) ((ws.drop i).take n) := by
  obtain ⟨arr, e, fz, h1, h2⟩ := h
  refine ⟨arr, e, fz, h1, fun k hk => ?_⟩
  have hk' : i + k < ws.length := by simp at hk; omega
  rw [show off + i + k = off + (i + k) by omega, h2 (i + k) hk']
  simp

theorem Has.drop {w : World} {b off : Nat} {ws : List Value} (h : Has w b off ws) (i : Nat) : Has w b (off + i) (ws.drop i) := by
  have := h.sub i ws.length
  rwa [List.take_of_length_le (by simp)] at this

theorem run_loadCells {P : Program} {w : World} {b off n : Nat} {ws : List Value} (h : Has w b off ws) (hn : ws.length = n) : (loadCells ⟨b, off, none⟩ n).run P w = .ok ws.toArray w := by
  unfold loadCells
  rw [run_loadFrom n 0 #[] ws]
  · simp
  · intro k hk; simpa using h.cell k hk
  · exact hn

/-- Cells stored one behind the other. -/
def putCells (w : World) (b off : Nat) : List Value → World
  | [] => w
  | v :: vs => putCells (w.setCell ⟨b, off, none⟩ v) b (off + 1) vs

def spliceA (arr : Array Value) (off : Nat) : List Value → Array Value
  | [] => arr
  | v :: vs => spliceA (arr.setIfInBounds off v) (off + 1) vs

theorem spliceA_size (arr : Array Value) (off : Nat) (vs : List Value) : (spliceA arr off vs).size = arr.size := by
  induction vs generalizing arr off with
  | nil => rfl
  | cons v vs ih => simp [spliceA, ih]

theorem spliceA_get (arr : Array Value) (off : Nat) (vs : List Value) (h : off + vs.length ≤ arr.size) (k : Nat) :
    (spliceA arr off vs)[k]? = if off ≤ k ∧ k < off + vs.length then vs[k - off]? else arr[k]? := by
  induction vs generalizing arr off with
  | nil => simp [spliceA]; omega
  | cons v vs ih =>
    simp only [spliceA]
    rw [ih _ _ (by simp at h ⊢; omega)]
    simp only [List.length_cons] at h ⊢
    by_cases hk : k = off
    · subst hk
      rw [if_neg (by omega), if_pos (by omega)]
      simp only [Nat.sub_self, List.getElem?_cons_zero]
      rw [Array.getElem?_setIfInBounds_self_of_lt (by omega)]
    · by_cases h1 : off + 1 ≤ k ∧ k < off + 1 + vs.length
      · rw [if_pos h1, if_pos (by omega)]
        rw [show k - off = (k - (off + 1)) + 1 by omega]
        simp
      · rw [if_neg h1, if_neg (by omega)]
        rw [Array.getElem?_setIfInBounds_ne (by omega)]

theorem putCells_heap {w : World} {b off : Nat} {vs : List Value} {arr : Array Value} {e : TypeId} {fz : Nat × Nat} (h : w.heap[b]? = some (.cells arr e fz)) :
    (putCells w b off vs).heap[b]? = some (.cells (spliceA arr off vs) e fz) ∧ (∀ b', b' ≠ b → (putCells w b off vs).heap[b']? = w.heap[b']?) ∧ (putCells w b off vs).heap.size = w.heap.size := by
  induction vs generalizing w arr off with
  | nil => exact ⟨h, fun _ _ => rfl, rfl⟩
  | cons v vs ih =>
    simp only [putCells, spliceA]
    have h1 : (w.setCell ⟨b, off, none⟩ v).heap[b]? = some (.cells (arr.setIfInBounds off v) e fz) := by
      simp [World.setCell, Array.getElem?_modify, h]
    obtain ⟨h2, h3, h4⟩ := ih (off := off + 1) h1
    refine ⟨h2, fun b' hb => (h3 b' hb).trans ?_, h4.trans ?_⟩
    · simp [World.setCell, Array.getElem?_modify, Ne.symm hb]
    · simp [World.setCell]

theorem run_storeCells {P : Program} {b off : Nat} {e : TypeId} {lo hi : Nat} (vs : List Value) : ∀ (i : Nat) (w : World) (arr : Array Value), w.heap[b]? = some (.cells arr e (lo, hi)) →
    (∀ k, k < arr.size → ¬ (lo ≤ k ∧ k < hi)) → off + i + vs.length ≤ arr.size → (∀ v ∈ vs, v.oneCell = true) →
    (storeCells ⟨b, off, none⟩ vs i).run P w = .ok () (putCells w b (off + i) vs) := by
  induction vs with
  | nil => intro i w arr h1 h2 h3 h4; simp [storeCells, run_pure, putCells]
  | cons v vs ih =>
    intro i w arr h1 h2 h3 h4
    simp only [List.length_cons] at h3
    simp only [storeCells, putCells]
    have hlt : off + i < arr.size := by omega
    have hc : w.cell? ⟨b, off + i, none⟩ = some arr[off + i] := by rw [cell_of h1]; simp [hlt]
    have hf : w.frozen? ⟨b, off + i, none⟩ = false := by
      simp only [World.frozen?, h1]
      have := h2 _ hlt
      simp only [Bool.and_eq_false_imp, decide_eq_true_eq, decide_eq_false_iff_not]
      intro h5 h6; exact this ⟨h5, h6⟩
    have hs : (store (Addr.add ⟨b, off, none⟩ i) v).run P w = .ok () (w.setCell ⟨b, off + i, none⟩ v) := by
      rw [add_none]
      have := h4 v (by simp)
      cases v <;> first | (simp [Value.oneCell] at this; done) | simp [store, Sem.run, hc, hf]
    rw [run_bind_ok hs]
    refine ih (i + 1) _ (arr.setIfInBounds (off + i) v) ?_ ?_ ?_ (fun v' hv => h4 v' (by simp [hv]))
    · simp [World.setCell, Array.getElem?_modify, h1]
    · simpa using h2
    · simp; omega

end Go.Im

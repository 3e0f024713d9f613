import Derived.Test.YtbifnchjphefeaaDoorIm44
import Derived.Sort.Row
import Derived.Sort.Grow
set_option linter.unusedVariables false
namespace Go.Im
open Go

/-! ### Sorting in place -/
theorem own_cells {w : World} {b off r : Nat} {ws : List Value} (h : Own w b off r ws) (hr : ws.length ≤ r) : ∀ j (hj : j < ws.length), w.cell? ⟨b, off + j, none⟩ = some ws[j] ∧ w.frozen? ⟨b, off + j, none⟩ = false := by
  obtain ⟨arr, e, lo, hi, h1, h2, h3, h4⟩ := h
  intro j hj
  unfold World.cell? World.frozen?
  simp only [h1]
  refine ⟨by simpa using h4 j hj, ?_⟩
  have := h2 (off + j) (by omega)
  simp only [Bool.and_eq_false_iff, decide_eq_false_iff_not]
  omega

theorem repEs_scs {α : Type} {enc : α → Value} {β : Nat → Loc} {N : Nat → Prop} {w : World} : ∀ {xs : List α} {ws : List Value} {bs : List Nat}, RepEs β N w (xs.map (fun a => [D.sc (enc a)])) ws bs → ws = xs.map enc ∧ bs = []
  | [], ws, bs, h => by simpa [RepEs] using h
  | x :: xs, ws, bs, h => by
    simp only [List.map_cons, RepEs, RepCs, Rep] at h
    obtain ⟨w1, w2, b1, b2, rfl, rfl, ⟨v, vs, c1, c2, rfl, rfl, h3, rfl, rfl⟩, h4⟩ := h
    obtain ⟨rfl, rfl⟩ := h3
    obtain ⟨rfl, rfl⟩ := repEs_scs h4
    exact ⟨rfl, rfl⟩

theorem repEs_scs' {α : Type} {enc : α → Value} {β : Nat → Loc} {N : Nat → Prop} {w : World} : ∀ (xs : List α), RepEs β N w (xs.map (fun a => [D.sc (enc a)])) (xs.map enc) []
  | [] => by simp [RepEs]
  | x :: xs => by
    simp only [List.map_cons, RepEs, RepCs, Rep]
    exact ⟨[enc x], xs.map enc, [], [], rfl, rfl, ⟨_, [], [], [], rfl, rfl, ⟨rfl, rfl⟩, rfl, rfl⟩, repEs_scs' xs⟩

theorem putRow_heap {α : Type} [Inhabited α] {enc : α → Value} {w : World} {blk off : Nat} {d : Array α} {arr : Array Value} {e : TypeId} {fz : Nat × Nat} (h : w.heap[blk]? = some (.cells arr e fz)) :
    (Sort.putRow enc w blk off d).heap[blk]? = some (.cells (Sort.putCells enc off d arr) e fz) ∧ (∀ b, b ≠ blk → (Sort.putRow enc w blk off d).heap[b]? = w.heap[b]?) ∧ (Sort.putRow enc w blk off d).heap.size = w.heap.size := by
  unfold Sort.putRow Sort.mapBlock
  refine ⟨?_, fun b hb => ?_, by simp⟩
  · simp only [Array.getElem?_modify, if_true, h]
    rfl
  · simp only [Array.getElem?_modify]
    rw [if_neg (fun e => hb e.symm)]

theorem Ok_sort {α : Type} [Inhabited α] {P : Program} {f : FuncId} {enc : α → Value} {xs ys : List α} (hl : ys.length = xs.length)
    (h : ∀ (blk off cap : Nat) (w : World), Sort.Holds enc w blk off xs.toArray → blk < w.heap.size → Calls P f #[.slice (some ⟨blk, off, none⟩) xs.length cap] w fun e w' => e = .returned (.tuple #[]) ∧ ∃ n os, w' = Sort.grow (Sort.putRow enc (Sort.ahead w n) blk off ys.toArray) os)
    (h0 : xs = [] → ∀ (p : Option Addr) (cap : Nat) (w : World), Calls P f #[.slice p 0 cap] w fun e w' => e = .returned (.tuple #[]) ∧ w' = w) :
    Ok P f [.rf 0 0 xs.length none] [.row 1 (xs.map (fun a => [D.sc (enc a)]))] (some (.tu [], [.row 1 (ys.map (fun a => [D.sc (enc a)]))])) := by
  intro out ho w N β vs bs ha hh hnd hlt hN _
  cases ho
  simp only [RepCs] at ha
  obtain ⟨v, vs', b1, b2, rfl, hb12, h1, rfl, rfl⟩ := ha
  have hb1 : b1 = [] := by simpa using hb12.symm
  subst hb1
  simp only [Rep] at h1
  obtain ⟨_, _, h1⟩ := h1
  obtain ⟨c1, c2, rfl, ⟨hLz, hzz, hrow⟩, hc2⟩ := hh
  have hc2' : c2 = [] := hc2
  subst hc2'
  simp only at hLz hzz hrow
  rcases hrow with ⟨hnil, hxs, hc1⟩ | ⟨hnil, ws, hO, hE⟩
  · -- nil
    have hxs' : xs = [] := by simpa using hxs
    subst hxs'
    subst hc1
    have hys : ys = [] := List.eq_nil_of_length_eq_zero hl
    subst hys
    have hv : v = .slice none 0 0 := by
      rcases h1 with ⟨_, _, _, h1⟩ | ⟨h1, _⟩
      · exact h1
      · rw [hnil] at h1; cases h1
    subst hv
    refine (h0 rfl none 0 w).mono ?_
    rintro e w' ⟨rfl, rfl⟩
    have hown : (β 0).own = [] := by simp [Loc.own, hnil]
    refine ⟨.tuple #[], [], [], rfl, ⟨rfl, rfl⟩, Nat.le_refl _, fun _ _ _ => rfl, by simp, by simp, ?_, ?_⟩
    · simp only [Rep, RepCs]
      exact ⟨trivial, [], rfl, rfl, trivial⟩
    · refine ⟨[], [], by simp [hown], ⟨hLz, by simp, .inl ⟨hnil, rfl, rfl⟩⟩, rfl⟩
  · have hown : (β 0).own = [(β 0).b] := by simp [Loc.own, hnil]
    rw [hown] at hlt hnd hN ⊢
    obtain ⟨rfl, rfl⟩ := repEs_scs hE
    obtain ⟨cp, hv, hcap, hroom⟩ : ∃ c', v = .slice (some ⟨(β 0).b, (β 0).o, none⟩) xs.length c' ∧ xs.length ≤ c' ∧ c' ≤ (β 0).r := by
      rcases h1 with ⟨h1, _⟩ | ⟨_, c', h3, h4, h5, _⟩
      · rw [hnil] at h1; cases h1
      · exact ⟨c', by simpa using h3, h4, by rw [hLz] at h5; simpa using h5⟩
    subst hv
    have hbl : (β 0).b < w.heap.size := hlt _ (by simp)
    have hcells := own_cells hO (by simpa using Nat.le_trans hcap hroom)
    have hH : Sort.Holds enc w (β 0).b (β 0).o xs.toArray := by
      intro j hj
      have hj' : j < xs.length := by simpa using hj
      obtain ⟨q1, q2⟩ := hcells j (by simpa using hj')
      refine ⟨?_, q2⟩
      rw [q1]
      simp [hj']
    refine (h _ _ cp w hH hbl).mono ?_
    rintro e w' ⟨rfl, n, os, rfl⟩
    obtain ⟨arr, el, lo, hi, g1, g2, g3, g4⟩ := hO
    obtain ⟨p1, p2, p3⟩ := putRow_heap (enc := enc) (w := Sort.ahead w n) (blk := (β 0).b) (off := (β 0).o) (d := ys.toArray) (fz := (lo, hi)) (e := el) (arr := arr) g1
    have hg : ∀ b, b < w.heap.size → (Sort.grow (Sort.putRow enc (Sort.ahead w n) (β 0).b (β 0).o ys.toArray) os).heap[b]? = (Sort.putRow enc (Sort.ahead w n) (β 0).b (β 0).o ys.toArray).heap[b]? := by
      intro b hb
      unfold Sort.grow
      simp only
      rw [Array.getElem?_append_left (by rw [p3]; exact hb)]
    have hsz : w.heap.size ≤ (Sort.grow (Sort.putRow enc (Sort.ahead w n) (β 0).b (β 0).o ys.toArray) os).heap.size := by
      unfold Sort.grow
      simp only [Array.size_append]
      rw [p3]
      exact Nat.le_add_right _ _
    refine ⟨.tuple #[], [], [(β 0).b], rfl, ⟨rfl, rfl⟩, hsz, ?_, by simp, ?_, ?_, ?_⟩
    · intro b hb hb2
      rw [hg b hb, p2 b (fun e => hb2 (by simp [e]))]
      rfl
    · intro b hb
      simp only [List.nil_append, List.mem_singleton] at hb
      subst hb
      exact ⟨Nat.lt_of_lt_of_le hbl hsz, .inl (by simp)⟩
    · simp only [Rep, RepCs]
      exact ⟨trivial, [], rfl, rfl, trivial⟩
    · refine ⟨[], [], by simp [hown], ⟨hLz, by simp, .inr ⟨hnil, ys.map enc, ?_, repEs_scs' ys⟩⟩, rfl⟩
      refine ⟨Sort.putCells enc (β 0).o ys.toArray arr, el, lo, hi, by rw [hg _ hbl]; exact p1, ?_, ?_, ?_⟩
      · unfold Sort.putCells
        rw [Array.size_mapIdx]
        exact g2
      · unfold Sort.putCells
        rw [Array.size_mapIdx]
        exact g3
      · intro k hk
        have hk' : k < ys.length := by simpa using hk
        unfold Sort.putCells
        have hka : (β 0).o + k < arr.size := by
          have : (β 0).o + (β 0).r ≤ arr.size := g3
          omega
        rw [Array.getElem?_mapIdx, Array.getElem?_eq_getElem hka]
        simp only [Option.map_some]
        rw [if_pos (by simp; omega)]
        simp [hk']
end Go.Im

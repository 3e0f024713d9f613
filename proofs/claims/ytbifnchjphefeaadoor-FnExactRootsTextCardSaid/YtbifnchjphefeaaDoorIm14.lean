import Derived.Test.YtbifnchjphefeaaDoorIm13
import Derived.Deep.Upon
import Derived.Deep.AppendSrc
set_option linter.unusedVariables false
namespace Go.Im
open Go

variable {Γ : Ctx} {ops : Array Oper} {o : Oper}

theorem oneCell_eq (v : Value) : v.oneCell' = v.oneCell := by cases v <;> rfl

theorem setCells_eq_put (w : World) (b : Nat) : ∀ (vs : List Value) (off : Nat), w.setCells b off vs = putCells w b off vs := by
  intro vs
  induction vs generalizing w with
  | nil => intro off; rfl
  | cons v vs ih => intro off; simp only [World.setCells, putCells]; exact ih _ _

theorem info_of {P : Program} {el : TypeId} {zv : Value} {z bytes : Nat} (h : (P.info? el).map (fun i => (i.zero, i.size, i.bytes)) = some (some zv, z, bytes)) : ∃ i, P.info? el = some i ∧ i.zero = some zv ∧ i.size = z ∧ i.bytes = bytes := by
  cases hi : P.info? el with
  | none => rw [hi] at h; simp at h
  | some i => rw [hi] at h; simp at h; exact ⟨i, rfl, h⟩

/-- What the first operand of an append is. -/
def Dst (w : World) (z n : Nat) (v : Value) (wx : List Value) (blk : List Nat) : Prop :=
  (v = .slice none 0 0 ∧ n = 0 ∧ wx = [] ∧ blk = []) ∨
  (∃ b off c, v = .slice (some ⟨b, off, none⟩) n c ∧ blk = [b] ∧ n ≤ c ∧ Own w b off (c * z) wx ∧ wx.length = n * z)

/-- What append gives. -/
def Appd (w w1 : World) (z n m : Nat) (wx wy : List Value) (blk : List Nat) (r : Value) : Prop :=
  (w1.os = w.os ∧ w1.output = w.output) ∧ ((n + m = 0 ∧ blk = [] ∧ r = .slice none 0 0 ∧ w1 = w) ∨
  (∃ b off c, r = .slice (some ⟨b, off, none⟩) (n + m) c ∧ n + m ≤ c ∧ Own w1 b off (c * z) (wx ++ wy) ∧ b < w1.heap.size ∧
    ((blk = [b] ∧ (∀ b', b' ≠ b → w1.heap[b']? = w.heap[b']?) ∧ w1.heap.size = w.heap.size) ∨ (b = w.heap.size ∧ w.heap.size ≤ w1.heap.size ∧ ∀ b', b' < w.heap.size → w1.heap[b']? = w.heap[b']?))))

theorem own_grown {w w1 : World} {arr : Array Value} {e : TypeId} {pre : List Value} {r : Nat} (h : w1.heap = w.heap.push (.cells arr e (0, 0))) (hr : r ≤ arr.size) (hp : ∃ q, arr.toList = pre ++ q) : Own w1 w.heap.size 0 r pre := by
  obtain ⟨arr', e', lo, hi, q1, q2, q3, q4⟩ := own_new h
  obtain ⟨q, hq⟩ := hp
  have : arr' = arr := by
    rw [h] at q1; simp at q1; exact q1.1.symm
  subst this
  refine ⟨arr', e', lo, hi, q1, q2, by omega, ?_⟩
  intro k hk
  rw [q4 k (by rw [hq]; simp; omega)]
  simp only [hq]
  rw [List.getElem_append_left hk]

theorem run_append {P : Program} {w : World} {T U el : TypeId} {ty : TypeId} {z n m bytes : Nat} {v u : Value} {wx wy : List Value} {blk : List Nat} {zv : Value}
    (hT : P.underlying T = some (.slice el)) (hinfo : (P.info? el).map (fun i => (i.zero, i.size, i.bytes)) = some (some zv, z, bytes)) (hzs : zv.cells.size = z)
    (hd : Dst w z n v wx blk) (hs : Go.Src P z U u m wy w) (hbig : (n + m) * bytes ≤ 140737488355328) (h62 : n + m ≤ 4611686018427387904) :
    ∃ r w1, (Builtin.append_ #[T, U] ty #[v, u]).run P w = .ok r w1 ∧ Appd w w1 z n m wx wy blk r := by
  obtain ⟨i, hi, hz0, rfl, rfl⟩ := info_of hinfo
  have hyl := hs.newsLen
  rcases hd with ⟨rfl, rfl, rfl, rfl⟩ | ⟨b, off, c, rfl, rfl, hnc, hO, hxl⟩
  · by_cases hm0 : m = 0
    · subst hm0
      have hwy : wy = [] := List.length_eq_zero_iff.1 (by simpa using hyl)
      subst hwy
      exact ⟨_, _, run_append_nothing w T U ty el i hT hi none 0 0 (Nat.le_refl _) u hs, ⟨rfl, rfl⟩, .inl ⟨rfl, rfl, rfl, rfl⟩⟩
    · have hge := grownCap_ge w (0 + m) 0 el
      refine ⟨_, _, run_append_grow_src w T U ty el i zv hT hi hz0 none 0 0 [] rfl u m wy hs (by omega) (by omega) (growslice_fits (by omega) hbig), ⟨rfl, rfl⟩, .inr ⟨w.heap.size, 0, _, rfl, hge, ?_, ?_, .inr ⟨rfl, ?_, ?_⟩⟩⟩
      · refine own_grown (w := w) rfl ?_ ⟨_, by simp; rfl⟩
        simp only [Array.size_append, List.nil_append, List.size_toArray, hyl, Builtin.zeroCells, Array.size_map, Array.size_range, hzs, Nat.zero_add, ← Nat.add_mul]
        exact Nat.mul_le_mul_right _ (by omega)
      · show w.heap.size < (w.heap.push _).size; simp
      · show w.heap.size ≤ (w.heap.push _).size; simp
      · intro b' hb'; exact push_get (w := w) rfl hb'
  · by_cases hroom : n + m ≤ c
    · obtain ⟨arr, e, lo, hi', g1, g2, g3, g4⟩ := hO
      have hle : n * i.size + m * i.size ≤ c * i.size := by rw [← Nat.add_mul]; exact Nat.mul_le_mul_right _ hroom
      have hcell : ∀ j, j < wy.length → off + n * i.size + j < arr.size := fun j hj => by omega
      refine ⟨_, _, run_append_room_src w T U ty el i hT hi b off n c u m wy hs hroom ?_ ?_, by rw [setCells_eq_put]; exact putCells_quiet _ _ _ _, .inr ⟨b, off, c, rfl, hroom, ?_, ?_, .inl ⟨rfl, ?_, ?_⟩⟩⟩
      · intro j hj; rw [cell_of g1]; simp [hcell j hj]
      · intro j hj
        have := g2 _ (hcell j hj)
        simp only [World.frozen?, g1, Bool.and_eq_false_imp, decide_eq_true_eq, decide_eq_false_iff_not]
        intro h5 h6; exact this ⟨h5, h6⟩
      · rw [setCells_eq_put]
        obtain ⟨h6, h7, h8⟩ := putCells_heap (off := off + n * i.size) (vs := wy) g1
        refine ⟨_, e, lo, hi', h6, by rw [spliceA_size]; exact g2, by rw [spliceA_size]; exact g3, ?_⟩
        intro k hk
        rw [spliceA_get _ _ _ (by omega)]
        simp only [List.length_append] at hk
        rw [← List.getElem?_eq_getElem]
        by_cases c1 : k < n * i.size
        · rw [if_neg (by omega), g4 k (by omega), List.getElem?_append_left (by omega)]
          simp
        · rw [if_pos (by omega), List.getElem?_append_right (by omega)]
          congr 1; omega
      · rw [setCells_eq_put, (putCells_heap g1).2.2]
        rcases Nat.lt_or_ge b w.heap.size with h | h
        · exact h
        · rw [Array.getElem?_eq_none h] at g1; cases g1
      · intro b' hb'; rw [setCells_eq_put]; exact (putCells_heap g1).2.1 b' hb'
      · rw [setCells_eq_put]; exact (putCells_heap g1).2.2
    · have hge := grownCap_ge w (n + m) c el
      have hold : (Builtin.firstCells i.size n (.slice (some ⟨b, off, none⟩) n c)).run P w.drew = .ok wx.toArray w.drew := by
        simp only [Builtin.firstCells]
        exact run_loadCells (hO.has.frame rfl) hxl
      refine ⟨_, _, run_append_grow_src w T U ty el i zv hT hi hz0 (some ⟨b, off, none⟩) n c wx hold u m wy hs (by omega) (by omega) (growslice_fits (by omega) hbig), ⟨rfl, rfl⟩, .inr ⟨w.heap.size, 0, _, rfl, hge, ?_, ?_, .inr ⟨rfl, ?_, ?_⟩⟩⟩
      · refine own_grown (w := w) rfl ?_ ⟨_, by simp; rfl⟩
        simp only [Array.size_append, List.size_toArray, List.length_append, hyl, hxl, Builtin.zeroCells, Array.size_map, Array.size_range, hzs, ← Nat.add_mul]
        exact Nat.mul_le_mul_right _ (by omega)
      · show w.heap.size < (w.heap.push _).size; simp
      · show w.heap.size ≤ (w.heap.push _).size; simp
      · intro b' hb'; exact push_get (w := w) rfl hb'

end Go.Im
